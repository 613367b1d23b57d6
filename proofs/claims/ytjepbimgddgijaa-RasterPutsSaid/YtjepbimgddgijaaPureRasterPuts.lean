/- RasterPuts in plain words: Put computes what the specification computes. For every two images and place. -/
import Derived.Test.YtjepbimgddgijaaPPut
namespace Go.Proofs.Ytjepbimgddgijaa.Pure
open Go.RowKit Go.Proofs.YtjepbimgddgijaaW.PrintWords Go.Proofs.YtjepbimgddgijaaW.PrintLast Go.Proofs.YtjepbimgddgijaaW.PrintMore Go.Proofs.Ytjepbimgddgijaa.G
set_option linter.unusedVariables false
set_option linter.unusedSimpArgs false

theorem RasterPuts : ∀ (a0_0 : Int) (a0_1 : Int) (a0_2 : List S26) (a1_0 : Int) (a1_1 : Int) (a1_2 : List S26) (a2_0 : Int) (a2_1 : Int), ((Lit.int .i64 a0_0).wf = true ∧ (Lit.int .i64 a0_1).wf = true ∧ (a0_2.length ≤ maxLen ∧ ∀ x ∈ a0_2, (Lit.int .i64 x.f0).wf = true ∧ (Lit.int .i64 x.f1).wf = true ∧ (Lit.int .i64 x.f2).wf = true ∧ (Lit.int .i64 x.f3).wf = true)) → ((Lit.int .i64 a1_0).wf = true ∧ (Lit.int .i64 a1_1).wf = true ∧ (a1_2.length ≤ maxLen ∧ ∀ x ∈ a1_2, (Lit.int .i64 x.f0).wf = true ∧ (Lit.int .i64 x.f1).wf = true ∧ (Lit.int .i64 x.f2).wf = true ∧ (Lit.int .i64 x.f3).wf = true)) → ((Lit.int .i64 a2_0).wf = true ∧ (Lit.int .i64 a2_1).wf = true) → ∃ k, imageeditorlaw11_RasterPuts.f k a0_0 a0_1 a0_2 a1_0 a1_1 a1_2 a2_0 a2_1 = some true := by
  intro W H l w h p ax ay _ _ _
  refine Ev.rounds ((put_eq W H l w h p ax ay).bind ((put_eq' W H l w h p ax ay).bind (awake_eq.bind ?_)))
  simp only [if_true]
  exact (same_eq _ (putR_small _ _ _ _ _ _ _ _) _ _).bind (.now _)
end Go.Proofs.Ytjepbimgddgijaa.Pure
