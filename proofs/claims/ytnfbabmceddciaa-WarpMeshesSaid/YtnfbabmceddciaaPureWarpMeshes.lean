/- WarpMeshes in plain words: Check, At and Reach compute what the specification computes. For every mesh and coordinates. -/
import Derived.Test.YtnfbabmceddciaaPMeshAt
import Derived.Test.YtnfbabmceddciaaG13
import Derived.Test.YtnfbabmceddciaaG14
namespace Go.Proofs.Ytnfbabmceddciaa.Pure
open Go.RowKit Go.Proofs.YtnfbabmceddciaaW.PrintWords Go.Proofs.YtnfbabmceddciaaW.PrintLast Go.Proofs.YtnfbabmceddciaaW.PrintMore Go.Proofs.Ytnfbabmceddciaa.G
set_option linter.unusedVariables false
set_option linter.unusedSimpArgs false

theorem awake_eq : Ev (fun k => imageeditorlaw15_awake.f k) true := .of imageeditorlaw15_awake.mono imageeditorlaw15_awake.known
theorem WarpMeshes : ∀ (a0_0 : Int) (a0_1 : Int) (a0_2 : Int) (a0_3 : List S28) (a1 : Int) (a2 : Int), ((Lit.int .i64 a0_0).wf = true ∧ (Lit.int .i64 a0_1).wf = true ∧ (Lit.int .i64 a0_2).wf = true ∧ (a0_3.length ≤ maxLen ∧ ∀ x ∈ a0_3, (Lit.int .i64 x.f0).wf = true ∧ (Lit.int .i64 x.f1).wf = true)) → (Lit.int .i64 a1).wf = true → (Lit.int .i64 a2).wf = true → ∃ k, imageeditorlaw15_WarpMeshes.f k a0_0 a0_1 a0_2 a0_3 a1 a2 = some true := by
  intro c r s D x y _ _ _
  unfold imageeditorlaw15_WarpMeshes.f
  refine Ev.rounds ((wcheck_eq c r s D).bind ((wcheck_eq' c r s D).bind ?_))
  simp only [if_true]
  refine (At_eq c r s D x y).bind ((At_eq' c r s D x y).bind ?_)
  simp only [beq_self_eq_true, Bool.and_self, if_true]
  refine (reach_eq c r s D).bind ((reach_eq' c r s D).bind ?_)
  simp only [if_true]
  exact awake_eq.bind (.now _)
end Go.Proofs.Ytnfbabmceddciaa.Pure
