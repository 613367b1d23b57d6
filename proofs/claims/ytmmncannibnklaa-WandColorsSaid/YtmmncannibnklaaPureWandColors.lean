/- WandColors in plain words: Similar, Soft and Opaque compute the masks and errors of the specification. For every image, color and tolerances. -/
import Derived.Test.YtmmncannibnklaaPMaps
import Derived.Test.YtmmncannibnklaaG18
namespace Go.Proofs.Ytmmncannibnklaa.Pure
open Go.RowKit Go.Proofs.YtmmncannibnklaaW.PrintWords Go.Proofs.YtmmncannibnklaaW.PrintLast Go.Proofs.YtmmncannibnklaaW.PrintMore Go.Proofs.Ytmmncannibnklaa.G
set_option linter.unusedVariables false
set_option linter.unusedSimpArgs false
theorem WandColors : ∀ (a0_0 : Int) (a0_1 : Int) (a0_2 : List S37) (a1_0 : Int) (a1_1 : Int) (a1_2 : Int) (a1_3 : Int) (a2 : Int) (a3 : Int), ((Lit.int .i64 a0_0).wf = true ∧ (Lit.int .i64 a0_1).wf = true ∧ (a0_2.length ≤ maxLen ∧ ∀ x ∈ a0_2, (Lit.int .i64 x.f0).wf = true ∧ (Lit.int .i64 x.f1).wf = true ∧ (Lit.int .i64 x.f2).wf = true ∧ (Lit.int .i64 x.f3).wf = true)) → ((Lit.int .i64 a1_0).wf = true ∧ (Lit.int .i64 a1_1).wf = true ∧ (Lit.int .i64 a1_2).wf = true ∧ (Lit.int .i64 a1_3).wf = true) → (Lit.int .i64 a2).wf = true → (Lit.int .i64 a3).wf = true → ∃ k, imageeditorlaw24_WandColors.f k a0_0 a0_1 a0_2 a1_0 a1_1 a1_2 a1_3 a2 a3 = some true := by
  intro W H l c0 c1 c2 c3 near far _ _ _ _
  have x1 := similar_eq W H l ⟨c0, c1, c2, c3⟩ near
  have x2 := similar_eq' W H l ⟨c0, c1, c2, c3⟩ near
  have x3 := soft_eq W H l ⟨c0, c1, c2, c3⟩ near far
  have x4 := soft_eq' W H l ⟨c0, c1, c2, c3⟩ near far
  have x5 := opaque_eq W H l
  have x6 := opaque_eq' W H l
  refine Ev.rounds (x1.bind (x2.bind (x3.bind (x4.bind (x5.bind (x6.bind ((same_eq _ (simR_small _ _ _ _ _) _ _).bind ?_)))))))
  simp only [if_true]
  refine (same_eq _ (softR_small _ _ _ _ _ _) _ _).bind ?_
  simp only [if_true]
  refine (same_eq _ (opR_small _ _ _) _ _).bind ?_
  simp only [if_true]
  exact awake_eq.bind (.now _)
end Go.Proofs.Ytmmncannibnklaa.Pure
