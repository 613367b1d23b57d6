/- RasterCrops in plain words: Crop computes what the specification computes. For every image and rectangle. -/
import Derived.Test.YtjepbimgddgijaaPCrop
namespace Go.Proofs.Ytjepbimgddgijaa.Pure
open Go.RowKit Go.Proofs.YtjepbimgddgijaaW.PrintWords Go.Proofs.YtjepbimgddgijaaW.PrintLast Go.Proofs.YtjepbimgddgijaaW.PrintMore Go.Proofs.Ytjepbimgddgijaa.G
set_option linter.unusedVariables false
set_option linter.unusedSimpArgs false

theorem RasterCrops : ∀ (a0_0 : Int) (a0_1 : Int) (a0_2 : List S26) (a1_0 : Int) (a1_1 : Int) (a1_2 : Int) (a1_3 : Int), ((Lit.int .i64 a0_0).wf = true ∧ (Lit.int .i64 a0_1).wf = true ∧ (a0_2.length ≤ maxLen ∧ ∀ x ∈ a0_2, (Lit.int .i64 x.f0).wf = true ∧ (Lit.int .i64 x.f1).wf = true ∧ (Lit.int .i64 x.f2).wf = true ∧ (Lit.int .i64 x.f3).wf = true)) → ((Lit.int .i64 a1_0).wf = true ∧ (Lit.int .i64 a1_1).wf = true ∧ (Lit.int .i64 a1_2).wf = true ∧ (Lit.int .i64 a1_3).wf = true) → ∃ k, imageeditorlaw11_RasterCrops.f k a0_0 a0_1 a0_2 a1_0 a1_1 a1_2 a1_3 = some true := by
  intro W H l x y w h _ _
  refine Ev.rounds ((crop_eq W H l x y w h).bind ((crop_eq' W H l x y w h).bind (awake_eq.bind ?_)))
  simp only [if_true]
  exact (same_eq _ (cropR_small _ _ _ _ _ _ _) _ _).bind (.now _)
end Go.Proofs.Ytjepbimgddgijaa.Pure
