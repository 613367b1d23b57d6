/- WandFloods in plain words: the two masks and errors are equal, and the examples hold. For every image, point and tolerance. -/
import Derived.Test.YtmmncannibnklaaPAll
import Derived.Test.YtmmncannibnklaaG15
namespace Go.Proofs.Ytmmncannibnklaa.Pure
open Go.RowKit Go.Proofs.YtmmncannibnklaaW.PrintWords Go.Proofs.YtmmncannibnklaaW.PrintLast Go.Proofs.YtmmncannibnklaaW.PrintMore Go.Proofs.Ytmmncannibnklaa.G
set_option linter.unusedVariables false
set_option linter.unusedSimpArgs false
theorem WandFloods : ∀ (a0_0 : Int) (a0_1 : Int) (a0_2 : List S37) (a1_0 : Int) (a1_1 : Int) (a2 : Int) (a3 : Bool), ((Lit.int .i64 a0_0).wf = true ∧ (Lit.int .i64 a0_1).wf = true ∧ (a0_2.length ≤ maxLen ∧ ∀ x ∈ a0_2, (Lit.int .i64 x.f0).wf = true ∧ (Lit.int .i64 x.f1).wf = true ∧ (Lit.int .i64 x.f2).wf = true ∧ (Lit.int .i64 x.f3).wf = true)) → ((Lit.int .i64 a1_0).wf = true ∧ (Lit.int .i64 a1_1).wf = true) → (Lit.int .i64 a2).wf = true → ∃ k, imageeditorlaw24_WandFloods.f k a0_0 a0_1 a0_2 a1_0 a1_1 a2 a3 = some true := by
  intro W H l ax ay tol diag _ _ _
  obtain ⟨r, hr, e⟩ := floods W H l ax ay tol diag
  obtain ⟨r', hr', e'⟩ := floods' W H l ax ay tol diag
  obtain rfl := hr.same hr'
  refine Ev.rounds (e.bind (e'.bind ((same_eq _ hr.small _ _).bind ?_)))
  simp only [if_true]
  exact awake_eq.bind (.now _)
end Go.Proofs.Ytmmncannibnklaa.Pure
