/- RasterJoins in plain words: Join computes what the specification computes. For every size and tiles. -/
import Derived.Test.YtjepbimgddgijaaPJoin
import Derived.Test.YtjepbimgddgijaaG19
namespace Go.Proofs.Ytjepbimgddgijaa.Pure
open Go.RowKit Go.Proofs.YtjepbimgddgijaaW.PrintWords Go.Proofs.YtjepbimgddgijaaW.PrintLast Go.Proofs.YtjepbimgddgijaaW.PrintMore Go.Proofs.Ytjepbimgddgijaa.G
set_option linter.unusedVariables false
set_option linter.unusedSimpArgs false

theorem RasterJoins : ∀ (a0 : Int) (a1 : Int) (a2 : List S24), (Lit.int .i64 a0).wf = true → (Lit.int .i64 a1).wf = true → (a2.length ≤ maxLen ∧ ∀ x ∈ a2, (Lit.int .i64 x.f0).wf = true ∧ (Lit.int .i64 x.f1).wf = true ∧ (x.f2.length ≤ maxLen ∧ ∀ xx ∈ x.f2, (Lit.int .i64 xx.f0).wf = true ∧ (Lit.int .i64 xx.f1).wf = true ∧ (Lit.int .i64 xx.f2).wf = true ∧ (Lit.int .i64 xx.f3).wf = true)) → ∃ k, imageeditorlaw11_RasterJoins.f k a0 a1 a2 = some true := by
  intro w h tiles _ _ _
  obtain ⟨r, hr, h1, h2⟩ := join_both w h tiles
  refine Ev.rounds (h1.bind (h2.bind (awake_eq.bind ?_)))
  simp only [if_true]
  exact (same_eq _ hr _ _).bind (.now _)
end Go.Proofs.Ytjepbimgddgijaa.Pure
