/- RasterReads in plain words: At and Edge compute what the specification computes. For every image and place. -/
import Derived.Test.YtjepbimgddgijaaPAll
import Derived.Test.YtjepbimgddgijaaG15
namespace Go.Proofs.Ytjepbimgddgijaa.Pure
open Go.RowKit Go.Proofs.YtjepbimgddgijaaW.PrintWords Go.Proofs.YtjepbimgddgijaaW.PrintLast Go.Proofs.YtjepbimgddgijaaW.PrintMore Go.Proofs.Ytjepbimgddgijaa.G
set_option linter.unusedVariables false
set_option linter.unusedSimpArgs false

def readR (W H : Int) (l : List S26) (x y : Int) : Int × Int × Int × Int := if chk W H l = 0 then ((pick W H l x y).f0, (pick W H l x y).f1, (pick W H l x y).f2, (pick W H l x y).f3) else (0, 0, 0, 0)
theorem at_eq (W H : Int) (l : List S26) (x y : Int) : Ev (fun k => raster_At.f k W H l x y) (readR W H l x y) := by
  unfold raster_At.f readR
  refine (check_eq W H l).bind ?_
  by_cases h : chk W H l = 0
  case neg => simp only [if_neg h]; exact .now _
  obtain ⟨hs, hl, _⟩ := chk_ok h
  simp only [if_pos h, get_eq hs hl, Option.bind_some]
  exact .now _
theorem at_eq' (W H : Int) (l : List S26) (x y : Int) : Ev (fun k => imageeditorref11_At.f k W H l x y) (readR W H l x y) := by
  unfold imageeditorref11_At.f readR
  refine (check_eq' W H l).bind ?_
  by_cases h : chk W H l = 0
  case neg => simp only [if_neg h]; exact .now _
  obtain ⟨hs, hl, _⟩ := chk_ok h
  simp only [if_pos h, pick_eq hs hl, Option.bind_some]
  exact .now _
theorem edge_eq (W H : Int) (l : List S26) (x y : Int) : Ev (fun k => raster_Edge.f k W H l x y) (readR W H l (mn (mx x 0) (wrap64 (W - 1))) (mn (mx y 0) (wrap64 (H - 1)))) := by
  unfold raster_Edge.f readR
  refine (check_eq W H l).bind ?_
  by_cases h : chk W H l = 0
  case neg => simp only [if_neg h]; exact .now _
  obtain ⟨hs, hl, _⟩ := chk_ok h
  simp only [if_pos h, get_eq hs hl, Option.bind_some]
  exact .now _
theorem edge_eq' (W H : Int) (l : List S26) (x y : Int) : Ev (fun k => imageeditorref11_Edge.f k W H l x y) (readR W H l (mn (mx x 0) (wrap64 (W - 1))) (mn (mx y 0) (wrap64 (H - 1)))) := by
  unfold imageeditorref11_Edge.f readR
  refine (check_eq' W H l).bind ?_
  by_cases h : chk W H l = 0
  case neg => simp only [if_neg h]; exact .now _
  obtain ⟨hs, hl, _⟩ := chk_ok h
  simp only [if_pos h, pick_eq hs hl, Option.bind_some]
  exact .now _
theorem RasterReads : ∀ (a0_0 : Int) (a0_1 : Int) (a0_2 : List S26) (a1 : Int) (a2 : Int), ((Lit.int .i64 a0_0).wf = true ∧ (Lit.int .i64 a0_1).wf = true ∧ (a0_2.length ≤ maxLen ∧ ∀ x ∈ a0_2, (Lit.int .i64 x.f0).wf = true ∧ (Lit.int .i64 x.f1).wf = true ∧ (Lit.int .i64 x.f2).wf = true ∧ (Lit.int .i64 x.f3).wf = true)) → (Lit.int .i64 a1).wf = true → (Lit.int .i64 a2).wf = true → ∃ k, imageeditorlaw11_RasterReads.f k a0_0 a0_1 a0_2 a1 a2 = some true := by
  intro W H l x y _ _ _
  refine Ev.rounds (awake_eq.bind ?_)
  simp only [if_true]
  refine (at_eq W H l x y).bind ((at_eq' W H l x y).bind ?_)
  simp only [beq_self_eq_true, Bool.and_self, if_true]
  refine (edge_eq W H l x y).bind ((edge_eq' W H l x y).bind ?_)
  simp only [beq_self_eq_true, Bool.and_self]
  exact .now _
end Go.Proofs.Ytjepbimgddgijaa.Pure
