/- Contracts of functions of the program, each as it is called: what it computes (.f), that it computes no less with more rounds (.mono), and that a call returns just that (.calls). No conditions but those that each contract names. Written by a program of this session (wip/gx.py over the kit's print). -/
import Derived.Test.YtnfbabmceddciaaG0
import Derived.Test.YtnfbabmceddciaaG3
import Derived.Test.YtnfbabmceddciaaG8
import Derived.Test.YtnfbabmceddciaaG9
import Derived.Test.YtnfbabmceddciaaG10
import Derived.Test.YtnfbabmceddciaaG11
namespace Go.Proofs.Ytnfbabmceddciaa.G
open Go.RowKit Go.Proofs.YtnfbabmceddciaaW.PrintWords Go.Proofs.YtnfbabmceddciaaW.PrintLast Go.Proofs.YtnfbabmceddciaaW.PrintMore
attribute [local go_sem] max2_int min2_int max_two min_two max_three min_three max_four min_four max_five min_five   -- for this text's walks alone
set_option linter.unusedVariables false
set_option linter.unusedSimpArgs false


/-! ### warp_Draw: function 19 -/
mutual
def warp_Draw.l0 : Nat → Int → Int → Int → Int → List (S48) → Int → Int → Int → Int → Int → Int → Int → Int → Int → List (S28) → Int → Int → Int → Int → Int → Int → List (S48) → Option (Int × Int × (List (S48)) × Int)
 | 0, _, _, _, _, _, _, _, _, _, _, _, _, _, _, _, _, _, _, _, _, _, _ => none
 | k + 1, x4, x19, Z2, Z3, Z4, Z5, Z6, Z7, Z8, Z9, J0, J1, J2, J3, J4, Y4, J5, J6, J7, J8, J9, Y5 => if x19 < (wrap64 (J5 + J7)) then (warp_Draw.l1 k x4 x19 Y4 Z2 Z3 Z4 Z5 Z6 Z7 Z8 Z9 J0 J1 J2 J3 J4 Y4 J5 J6 J7 J8 J9 Y5) else (some (J8, J9, Y5, 0))
def warp_Draw.l1 : Nat → Int → Int → Int → Int → Int → List (S48) → Int → Int → Int → Int → Int → Int → Int → Int → Int → List (S28) → Int → Int → Int → Int → Int → Int → List (S48) → Option (Int × Int × (List (S48)) × Int)
 | 0, _, _, _, _, _, _, _, _, _, _, _, _, _, _, _, _, _, _, _, _, _, _, _ => none
 | k + 1, x4, x19, x20, Z2, Z3, Z4, Z5, Z6, Z7, Z8, Z9, J0, J1, J2, J3, J4, Y4, J5, J6, J7, J8, J9, Y5 => if x20 < (wrap64 (Y4 + J6)) then ((warp_at.f k J1 J2 J3 J4 x20 x19).bind fun E2I => ((kernel_Taps.f k x4 (wrap64 ((wrap64 ((wrap64 (x20 * 65536)) + 32768)) + E2I.1))).bind fun E2J => ((kernel_Taps.f k x4 (wrap64 ((wrap64 ((wrap64 (x19 * 65536)) + 32768)) + E2I.2))).bind fun E2k => (warp_Draw.l2 k x4 x19 x20 E2J.1 E2J.2 E2k.1 E2k.2 (E2k.2.length : Int) 0 Z2 Z3 Z4 Z5 Z6 Z7 Z8 Z9 J0 J1 J2 J3 J4 Y4 J5 J6 J7 J8 J9 Y5 0 0 0 0 0 0 0)))) else (warp_Draw.l0 k x4 (wrap64 (x19 + 1)) Z2 Z3 Z4 Z5 Z6 Z7 Z8 Z9 J0 J1 J2 J3 J4 Y4 J5 J6 J7 J8 J9 Y5)
def warp_Draw.l2 : Nat → Int → Int → Int → Int → List Int → Int → List Int → Int → Int → Int → Int → List (S48) → Int → Int → Int → Int → Int → Int → Int → Int → Int → List (S28) → Int → Int → Int → Int → Int → Int → List (S48) → Int → Int → Int → Int → Int → Int → Int → Option (Int × Int × (List (S48)) × Int)
 | 0, _, _, _, _, _, _, _, _, _, _, _, _, _, _, _, _, _, _, _, _, _, _, _, _, _, _, _, _, _, _, _, _, _, _, _, _ => none
 | k + 1, x4, x19, x20, x22, x23, x24, x115, x116, x117, Z2, Z3, Z4, Z5, Z6, Z7, Z8, Z9, J0, J1, J2, J3, J4, Y4, J5, J6, J7, J8, J9, Y5, E0I, E0J, E0K, E0L, E0M, E0N, E0O => if x117 < x116 then (if 0 ≤ x117 then (if x117 < (x115.length : Int) then (warp_Draw.l3 k x4 x19 x20 x22 x23 x24 x117 (rd x115 x117) x115 x116 x117 x23 (x23.length : Int) 0 Z2 Z3 Z4 Z5 Z6 Z7 Z8 Z9 J0 J1 J2 J3 J4 Y4 J5 J6 J7 J8 J9 Y5 E0I E0J E0K E0L E0M E0N E0O) else (none)) else (none)) else ((warp_sums_pixel.f k E0I E0J E0K E0L E0M E0N E0O 4294967296).bind fun E0W => (if Y5.length < 4398046511104 then (warp_Draw.l1 k x4 x19 (wrap64 (x20 + 1)) Z2 Z3 Z4 Z5 Z6 Z7 Z8 Z9 J0 J1 J2 J3 J4 Y4 J5 J6 J7 J8 J9 (Y5 ++ [(⟨E0W.1, E0W.2.1, E0W.2.2.1, E0W.2.2.2.1⟩ : S48)])) else (none)))
def warp_Draw.l3 : Nat → Int → Int → Int → Int → List Int → Int → Int → Int → List Int → Int → Int → List Int → Int → Int → Int → Int → List (S48) → Int → Int → Int → Int → Int → Int → Int → Int → Int → List (S28) → Int → Int → Int → Int → Int → Int → List (S48) → Int → Int → Int → Int → Int → Int → Int → Option (Int × Int × (List (S48)) × Int)
 | 0, _, _, _, _, _, _, _, _, _, _, _, _, _, _, _, _, _, _, _, _, _, _, _, _, _, _, _, _, _, _, _, _, _, _, _, _, _, _, _, _, _ => none
 | k + 1, x4, x19, x20, x22, x23, x24, x27, x28, x115, x116, x117, x122, x123, x124, Z2, Z3, Z4, Z5, Z6, Z7, Z8, Z9, J0, J1, J2, J3, J4, Y4, J5, J6, J7, J8, J9, Y5, E0I, E0J, E0K, E0L, E0M, E0N, E0O => if x124 < x123 then (if 0 ≤ x124 then (if x124 < (x122.length : Int) then ((warp_Draw_1.f (wrap64 (x22 + x124)) (wrap64 (x24 + x27)) Z7 Z8 Z9 J0 Z5 Z6 Z2 Z3 Z4).bind fun E0X => ((warp_sums_add.f E0I E0J E0K E0L E0M E0N E0O E0X.1 E0X.2.1 E0X.2.2.1 E0X.2.2.2 (wrap64 ((rd x122 x124) * x28))).bind fun E0m => (warp_Draw.l3 k x4 x19 x20 x22 x23 x24 x27 x28 x115 x116 x117 x122 x123 (wrap64 (x124 + 1)) Z2 Z3 Z4 Z5 Z6 Z7 Z8 Z9 J0 J1 J2 J3 J4 Y4 J5 J6 J7 J8 J9 Y5 E0m.1 E0m.2.1 E0m.2.2.1 E0m.2.2.2.1 E0m.2.2.2.2.1 E0m.2.2.2.2.2.1 E0m.2.2.2.2.2.2))) else (none)) else (none)) else (warp_Draw.l2 k x4 x19 x20 x22 x23 x24 x115 x116 (wrap64 (x117 + 1)) Z2 Z3 Z4 Z5 Z6 Z7 Z8 Z9 J0 J1 J2 J3 J4 Y4 J5 J6 J7 J8 J9 Y5 E0I E0J E0K E0L E0M E0N E0O)
end
def warp_Draw.f (k : Nat) (a0_0 : Int) (a0_1 : Int) (l0_2 : List (S48)) (a1_0 : Int) (a1_1 : Int) (a2_0 : Int) (a2_1 : Int) (a2_2 : Int) (a2_3 : Int) (a3_0 : Int) (a3_1 : Int) (a3_2 : Int) (l3_3 : List (S28)) (a4 : Int) (a5_0 : Int) (a5_1 : Int) (a5_2 : Int) (a5_3 : Int) : Option (Int × Int × (List (S48)) × Int) := (raster_Check.f k a0_0 a0_1 l0_2).bind fun t345 => (if t345 = 0 then ((warp_Needs.f k a3_0 a3_1 a3_2 l3_3 a4 a5_0 a5_1 a5_2 a5_3 a2_0 a2_1 a2_2 a2_3).bind fun Y1 => (if Y1.2.2.2.2 = 0 then ((warp_covers.f a0_0 a0_1 l0_2 a1_0 a1_1 Y1.1 Y1.2.1 Y1.2.2.1 Y1.2.2.2.1).bind fun t352 => (if t352 = true then (if 0 ≤ (wrap64 (a5_2 * a5_3)) then (if (wrap64 (a5_2 * a5_3) : Int).toNat ≤ 8796093022208 then (warp_Draw.l0 k a4 a5_1 a0_0 a0_1 l0_2 a1_0 a1_1 a2_0 a2_1 a2_2 a2_3 a3_0 a3_1 a3_2 l3_3 a5_0 a5_1 a5_2 a5_3 a5_2 a5_3 (([] : List (S48)))) else (none)) else (none)) else (some (0, 0, ([] : List (S48)), 15)))) else (some (0, 0, ([] : List (S48)), Y1.2.2.2.2)))) else (some (0, 0, ([] : List (S48)), t345)))
theorem warp_Draw.mono_l : ∀ k, (∀ y0 y1 y2 y3 y4 y5 y6 y7 y8 y9 y10 y11 y12 y13 y14 y15 y16 y17 y18 y19 y20 y21, LeO (warp_Draw.l0 k y0 y1 y2 y3 y4 y5 y6 y7 y8 y9 y10 y11 y12 y13 y14 y15 y16 y17 y18 y19 y20 y21) (warp_Draw.l0 (k + 1) y0 y1 y2 y3 y4 y5 y6 y7 y8 y9 y10 y11 y12 y13 y14 y15 y16 y17 y18 y19 y20 y21)) ∧ (∀ y0 y1 y2 y3 y4 y5 y6 y7 y8 y9 y10 y11 y12 y13 y14 y15 y16 y17 y18 y19 y20 y21 y22, LeO (warp_Draw.l1 k y0 y1 y2 y3 y4 y5 y6 y7 y8 y9 y10 y11 y12 y13 y14 y15 y16 y17 y18 y19 y20 y21 y22) (warp_Draw.l1 (k + 1) y0 y1 y2 y3 y4 y5 y6 y7 y8 y9 y10 y11 y12 y13 y14 y15 y16 y17 y18 y19 y20 y21 y22)) ∧ (∀ y0 y1 y2 y3 y4 y5 y6 y7 y8 y9 y10 y11 y12 y13 y14 y15 y16 y17 y18 y19 y20 y21 y22 y23 y24 y25 y26 y27 y28 y29 y30 y31 y32 y33 y34 y35, LeO (warp_Draw.l2 k y0 y1 y2 y3 y4 y5 y6 y7 y8 y9 y10 y11 y12 y13 y14 y15 y16 y17 y18 y19 y20 y21 y22 y23 y24 y25 y26 y27 y28 y29 y30 y31 y32 y33 y34 y35) (warp_Draw.l2 (k + 1) y0 y1 y2 y3 y4 y5 y6 y7 y8 y9 y10 y11 y12 y13 y14 y15 y16 y17 y18 y19 y20 y21 y22 y23 y24 y25 y26 y27 y28 y29 y30 y31 y32 y33 y34 y35)) ∧ (∀ y0 y1 y2 y3 y4 y5 y6 y7 y8 y9 y10 y11 y12 y13 y14 y15 y16 y17 y18 y19 y20 y21 y22 y23 y24 y25 y26 y27 y28 y29 y30 y31 y32 y33 y34 y35 y36 y37 y38 y39 y40, LeO (warp_Draw.l3 k y0 y1 y2 y3 y4 y5 y6 y7 y8 y9 y10 y11 y12 y13 y14 y15 y16 y17 y18 y19 y20 y21 y22 y23 y24 y25 y26 y27 y28 y29 y30 y31 y32 y33 y34 y35 y36 y37 y38 y39 y40) (warp_Draw.l3 (k + 1) y0 y1 y2 y3 y4 y5 y6 y7 y8 y9 y10 y11 y12 y13 y14 y15 y16 y17 y18 y19 y20 y21 y22 y23 y24 y25 y26 y27 y28 y29 y30 y31 y32 y33 y34 y35 y36 y37 y38 y39 y40))
 | 0 => ⟨fun _ _ _ _ _ _ _ _ _ _ _ _ _ _ _ _ _ _ _ _ _ _ r h => by simp [warp_Draw.l0] at h, fun _ _ _ _ _ _ _ _ _ _ _ _ _ _ _ _ _ _ _ _ _ _ _ r h => by simp [warp_Draw.l1] at h, fun _ _ _ _ _ _ _ _ _ _ _ _ _ _ _ _ _ _ _ _ _ _ _ _ _ _ _ _ _ _ _ _ _ _ _ _ r h => by simp [warp_Draw.l2] at h, fun _ _ _ _ _ _ _ _ _ _ _ _ _ _ _ _ _ _ _ _ _ _ _ _ _ _ _ _ _ _ _ _ _ _ _ _ _ _ _ _ _ r h => by simp [warp_Draw.l3] at h⟩
 | k + 1 => by
  obtain ⟨ih0, ih1, ih2, ih3⟩ := warp_Draw.mono_l k
  refine ⟨?_, ?_, ?_, ?_⟩
  ·intro y0 y1 y2 y3 y4 y5 y6 y7 y8 y9 y10 y11 y12 y13 y14 y15 y16 y17 y18 y19 y20 y21
   unfold warp_Draw.l0
   repeat' first
   | (with_reducible exact ih0 _ _ _ _ _ _ _ _ _ _ _ _ _ _ _ _ _ _ _ _ _ _)
   | (with_reducible exact ih1 _ _ _ _ _ _ _ _ _ _ _ _ _ _ _ _ _ _ _ _ _ _ _)
   | (with_reducible exact ih2 _ _ _ _ _ _ _ _ _ _ _ _ _ _ _ _ _ _ _ _ _ _ _ _ _ _ _ _ _ _ _ _ _ _ _ _)
   | (with_reducible exact ih3 _ _ _ _ _ _ _ _ _ _ _ _ _ _ _ _ _ _ _ _ _ _ _ _ _ _ _ _ _ _ _ _ _ _ _ _ _ _ _ _ _)
   | (with_reducible exact kernel_Taps.mono _ _ _)
   | (with_reducible exact raster_Check.mono _ _ _ _)
   | (with_reducible exact warp_Needs.mono _ _ _ _ _ _ _ _ _ _ _ _ _ _)
   | (with_reducible exact warp_at.mono _ _ _ _ _ _ _)
   | (with_reducible exact warp_sums_pixel.mono _ _ _ _ _ _ _ _ _)
   | (with_reducible exact LeO.refl _)
   | (with_reducible exact LeO.none _)
   | (with_reducible refine LeO.ite ?_ ?_)
   | (with_reducible refine LeO.bind ?_ (fun _ => ?_))
   | exact ih0 _ _ _ _ _ _ _ _ _ _ _ _ _ _ _ _ _ _ _ _ _ _
   | exact ih1 _ _ _ _ _ _ _ _ _ _ _ _ _ _ _ _ _ _ _ _ _ _ _
   | exact ih2 _ _ _ _ _ _ _ _ _ _ _ _ _ _ _ _ _ _ _ _ _ _ _ _ _ _ _ _ _ _ _ _ _ _ _ _
   | exact ih3 _ _ _ _ _ _ _ _ _ _ _ _ _ _ _ _ _ _ _ _ _ _ _ _ _ _ _ _ _ _ _ _ _ _ _ _ _ _ _ _ _
   | exact kernel_Taps.mono _ _ _
   | exact raster_Check.mono _ _ _ _
   | exact warp_Needs.mono _ _ _ _ _ _ _ _ _ _ _ _ _ _
   | exact warp_at.mono _ _ _ _ _ _ _
   | exact warp_sums_pixel.mono _ _ _ _ _ _ _ _ _
   | exact LeO.none _
   | refine LeO.ite ?_ ?_
   | refine LeO.bind ?_ (fun _ => ?_)
  ·intro y0 y1 y2 y3 y4 y5 y6 y7 y8 y9 y10 y11 y12 y13 y14 y15 y16 y17 y18 y19 y20 y21 y22
   unfold warp_Draw.l1
   repeat' first
   | (with_reducible exact ih0 _ _ _ _ _ _ _ _ _ _ _ _ _ _ _ _ _ _ _ _ _ _)
   | (with_reducible exact ih1 _ _ _ _ _ _ _ _ _ _ _ _ _ _ _ _ _ _ _ _ _ _ _)
   | (with_reducible exact ih2 _ _ _ _ _ _ _ _ _ _ _ _ _ _ _ _ _ _ _ _ _ _ _ _ _ _ _ _ _ _ _ _ _ _ _ _)
   | (with_reducible exact ih3 _ _ _ _ _ _ _ _ _ _ _ _ _ _ _ _ _ _ _ _ _ _ _ _ _ _ _ _ _ _ _ _ _ _ _ _ _ _ _ _ _)
   | (with_reducible exact kernel_Taps.mono _ _ _)
   | (with_reducible exact raster_Check.mono _ _ _ _)
   | (with_reducible exact warp_Needs.mono _ _ _ _ _ _ _ _ _ _ _ _ _ _)
   | (with_reducible exact warp_at.mono _ _ _ _ _ _ _)
   | (with_reducible exact warp_sums_pixel.mono _ _ _ _ _ _ _ _ _)
   | (with_reducible exact LeO.refl _)
   | (with_reducible exact LeO.none _)
   | (with_reducible refine LeO.ite ?_ ?_)
   | (with_reducible refine LeO.bind ?_ (fun _ => ?_))
   | exact ih0 _ _ _ _ _ _ _ _ _ _ _ _ _ _ _ _ _ _ _ _ _ _
   | exact ih1 _ _ _ _ _ _ _ _ _ _ _ _ _ _ _ _ _ _ _ _ _ _ _
   | exact ih2 _ _ _ _ _ _ _ _ _ _ _ _ _ _ _ _ _ _ _ _ _ _ _ _ _ _ _ _ _ _ _ _ _ _ _ _
   | exact ih3 _ _ _ _ _ _ _ _ _ _ _ _ _ _ _ _ _ _ _ _ _ _ _ _ _ _ _ _ _ _ _ _ _ _ _ _ _ _ _ _ _
   | exact kernel_Taps.mono _ _ _
   | exact raster_Check.mono _ _ _ _
   | exact warp_Needs.mono _ _ _ _ _ _ _ _ _ _ _ _ _ _
   | exact warp_at.mono _ _ _ _ _ _ _
   | exact warp_sums_pixel.mono _ _ _ _ _ _ _ _ _
   | exact LeO.none _
   | refine LeO.ite ?_ ?_
   | refine LeO.bind ?_ (fun _ => ?_)
  ·intro y0 y1 y2 y3 y4 y5 y6 y7 y8 y9 y10 y11 y12 y13 y14 y15 y16 y17 y18 y19 y20 y21 y22 y23 y24 y25 y26 y27 y28 y29 y30 y31 y32 y33 y34 y35
   unfold warp_Draw.l2
   repeat' first
   | (with_reducible exact ih0 _ _ _ _ _ _ _ _ _ _ _ _ _ _ _ _ _ _ _ _ _ _)
   | (with_reducible exact ih1 _ _ _ _ _ _ _ _ _ _ _ _ _ _ _ _ _ _ _ _ _ _ _)
   | (with_reducible exact ih2 _ _ _ _ _ _ _ _ _ _ _ _ _ _ _ _ _ _ _ _ _ _ _ _ _ _ _ _ _ _ _ _ _ _ _ _)
   | (with_reducible exact ih3 _ _ _ _ _ _ _ _ _ _ _ _ _ _ _ _ _ _ _ _ _ _ _ _ _ _ _ _ _ _ _ _ _ _ _ _ _ _ _ _ _)
   | (with_reducible exact kernel_Taps.mono _ _ _)
   | (with_reducible exact raster_Check.mono _ _ _ _)
   | (with_reducible exact warp_Needs.mono _ _ _ _ _ _ _ _ _ _ _ _ _ _)
   | (with_reducible exact warp_at.mono _ _ _ _ _ _ _)
   | (with_reducible exact warp_sums_pixel.mono _ _ _ _ _ _ _ _ _)
   | (with_reducible exact LeO.refl _)
   | (with_reducible exact LeO.none _)
   | (with_reducible refine LeO.ite ?_ ?_)
   | (with_reducible refine LeO.bind ?_ (fun _ => ?_))
   | exact ih0 _ _ _ _ _ _ _ _ _ _ _ _ _ _ _ _ _ _ _ _ _ _
   | exact ih1 _ _ _ _ _ _ _ _ _ _ _ _ _ _ _ _ _ _ _ _ _ _ _
   | exact ih2 _ _ _ _ _ _ _ _ _ _ _ _ _ _ _ _ _ _ _ _ _ _ _ _ _ _ _ _ _ _ _ _ _ _ _ _
   | exact ih3 _ _ _ _ _ _ _ _ _ _ _ _ _ _ _ _ _ _ _ _ _ _ _ _ _ _ _ _ _ _ _ _ _ _ _ _ _ _ _ _ _
   | exact kernel_Taps.mono _ _ _
   | exact raster_Check.mono _ _ _ _
   | exact warp_Needs.mono _ _ _ _ _ _ _ _ _ _ _ _ _ _
   | exact warp_at.mono _ _ _ _ _ _ _
   | exact warp_sums_pixel.mono _ _ _ _ _ _ _ _ _
   | exact LeO.none _
   | refine LeO.ite ?_ ?_
   | refine LeO.bind ?_ (fun _ => ?_)
  ·intro y0 y1 y2 y3 y4 y5 y6 y7 y8 y9 y10 y11 y12 y13 y14 y15 y16 y17 y18 y19 y20 y21 y22 y23 y24 y25 y26 y27 y28 y29 y30 y31 y32 y33 y34 y35 y36 y37 y38 y39 y40
   unfold warp_Draw.l3
   repeat' first
   | (with_reducible exact ih0 _ _ _ _ _ _ _ _ _ _ _ _ _ _ _ _ _ _ _ _ _ _)
   | (with_reducible exact ih1 _ _ _ _ _ _ _ _ _ _ _ _ _ _ _ _ _ _ _ _ _ _ _)
   | (with_reducible exact ih2 _ _ _ _ _ _ _ _ _ _ _ _ _ _ _ _ _ _ _ _ _ _ _ _ _ _ _ _ _ _ _ _ _ _ _ _)
   | (with_reducible exact ih3 _ _ _ _ _ _ _ _ _ _ _ _ _ _ _ _ _ _ _ _ _ _ _ _ _ _ _ _ _ _ _ _ _ _ _ _ _ _ _ _ _)
   | (with_reducible exact kernel_Taps.mono _ _ _)
   | (with_reducible exact raster_Check.mono _ _ _ _)
   | (with_reducible exact warp_Needs.mono _ _ _ _ _ _ _ _ _ _ _ _ _ _)
   | (with_reducible exact warp_at.mono _ _ _ _ _ _ _)
   | (with_reducible exact warp_sums_pixel.mono _ _ _ _ _ _ _ _ _)
   | (with_reducible exact LeO.refl _)
   | (with_reducible exact LeO.none _)
   | (with_reducible refine LeO.ite ?_ ?_)
   | (with_reducible refine LeO.bind ?_ (fun _ => ?_))
   | exact ih0 _ _ _ _ _ _ _ _ _ _ _ _ _ _ _ _ _ _ _ _ _ _
   | exact ih1 _ _ _ _ _ _ _ _ _ _ _ _ _ _ _ _ _ _ _ _ _ _ _
   | exact ih2 _ _ _ _ _ _ _ _ _ _ _ _ _ _ _ _ _ _ _ _ _ _ _ _ _ _ _ _ _ _ _ _ _ _ _ _
   | exact ih3 _ _ _ _ _ _ _ _ _ _ _ _ _ _ _ _ _ _ _ _ _ _ _ _ _ _ _ _ _ _ _ _ _ _ _ _ _ _ _ _ _
   | exact kernel_Taps.mono _ _ _
   | exact raster_Check.mono _ _ _ _
   | exact warp_Needs.mono _ _ _ _ _ _ _ _ _ _ _ _ _ _
   | exact warp_at.mono _ _ _ _ _ _ _
   | exact warp_sums_pixel.mono _ _ _ _ _ _ _ _ _
   | exact LeO.none _
   | refine LeO.ite ?_ ?_
   | refine LeO.bind ?_ (fun _ => ?_)
theorem warp_Draw.mono : ∀ a0 a1 a2 a3 a4 a5 a6 a7 a8 a9 a10 a11 a12 a13 a14 a15 a16 a17 k, LeO (warp_Draw.f k a0 a1 a2 a3 a4 a5 a6 a7 a8 a9 a10 a11 a12 a13 a14 a15 a16 a17) (warp_Draw.f (k + 1) a0 a1 a2 a3 a4 a5 a6 a7 a8 a9 a10 a11 a12 a13 a14 a15 a16 a17) := by
 intro a0 a1 a2 a3 a4 a5 a6 a7 a8 a9 a10 a11 a12 a13 a14 a15 a16 a17 k
 obtain ⟨ih0, ih1, ih2, ih3⟩ := warp_Draw.mono_l k
 unfold warp_Draw.f
 repeat' first
   | (with_reducible exact ih0 _ _ _ _ _ _ _ _ _ _ _ _ _ _ _ _ _ _ _ _ _ _)
   | (with_reducible exact ih1 _ _ _ _ _ _ _ _ _ _ _ _ _ _ _ _ _ _ _ _ _ _ _)
   | (with_reducible exact ih2 _ _ _ _ _ _ _ _ _ _ _ _ _ _ _ _ _ _ _ _ _ _ _ _ _ _ _ _ _ _ _ _ _ _ _ _)
   | (with_reducible exact ih3 _ _ _ _ _ _ _ _ _ _ _ _ _ _ _ _ _ _ _ _ _ _ _ _ _ _ _ _ _ _ _ _ _ _ _ _ _ _ _ _ _)
   | (with_reducible exact kernel_Taps.mono _ _ _)
   | (with_reducible exact raster_Check.mono _ _ _ _)
   | (with_reducible exact warp_Needs.mono _ _ _ _ _ _ _ _ _ _ _ _ _ _)
   | (with_reducible exact warp_at.mono _ _ _ _ _ _ _)
   | (with_reducible exact warp_sums_pixel.mono _ _ _ _ _ _ _ _ _)
   | (with_reducible exact LeO.refl _)
   | (with_reducible exact LeO.none _)
   | (with_reducible refine LeO.ite ?_ ?_)
   | (with_reducible refine LeO.bind ?_ (fun _ => ?_))
   | exact ih0 _ _ _ _ _ _ _ _ _ _ _ _ _ _ _ _ _ _ _ _ _ _
   | exact ih1 _ _ _ _ _ _ _ _ _ _ _ _ _ _ _ _ _ _ _ _ _ _ _
   | exact ih2 _ _ _ _ _ _ _ _ _ _ _ _ _ _ _ _ _ _ _ _ _ _ _ _ _ _ _ _ _ _ _ _ _ _ _ _
   | exact ih3 _ _ _ _ _ _ _ _ _ _ _ _ _ _ _ _ _ _ _ _ _ _ _ _ _ _ _ _ _ _ _ _ _ _ _ _ _ _ _ _ _
   | exact kernel_Taps.mono _ _ _
   | exact raster_Check.mono _ _ _ _
   | exact warp_Needs.mono _ _ _ _ _ _ _ _ _ _ _ _ _ _
   | exact warp_at.mono _ _ _ _ _ _ _
   | exact warp_sums_pixel.mono _ _ _ _ _ _ _ _ _
   | exact LeO.none _
   | refine LeO.ite ?_ ?_
   | refine LeO.bind ?_ (fun _ => ?_)
def warp_Draw.T10 : Bool × List (List Nat × List Nat) := (true, [([], []), ([0], [0]), ([], []), ([2], [2]), ([], []), ([4], [4]), ([], []), ([6], [6]), ([5, 7], [5, 7]), ([8], [8]), ([1, 3, 9], [1, 3, 9]), ([], []), ([11, 10, 0, 1, 2, 3, 4, 5, 6, 7, 8, 9, 10, 11], [10, 11])])
def warp_Draw.B10 : List Nat := [0, 1, 0, 4, 0, 16, 0, 64, 240, 496, 1023, 0, 4095]
theorem warp_Draw.tab10 : rtab .any (opsOf Try.f19 10) = warp_Draw.T10 := by kernel_rfl
theorem warp_Draw.bits10 : waitsOk warp_Draw.T10.2 warp_Draw.B10 = true := by kernel_rfl
set_option maxHeartbeats 8000000 in
set_option maxRecDepth 100000 in
theorem warp_Draw.calls (k : Nat) (a0_0 : Int) (a0_1 : Int) (A0_2 : Option Addr) (c0_2 : Nat) (l0_2 : List (S48)) (a1_0 : Int) (a1_1 : Int) (a2_0 : Int) (a2_1 : Int) (a2_2 : Int) (a2_3 : Int) (a3_0 : Int) (a3_1 : Int) (a3_2 : Int) (A3_3 : Option Addr) (c3_3 : Nat) (l3_3 : List (S28)) (a4 : Int) (a5_0 : Int) (a5_1 : Int) (a5_2 : Int) (a5_3 : Int) (r1 : Int) (r2 : Int) (r3 : List (S48)) (r4 : Int) (w : World) (hr0_2 : Kd.C k48 w A0_2 l0_2.length l0_2) (hc0_2 : l0_2.length ≤ c0_2) (hr3_3 : Kd.C k28 w A3_3 l3_3.length l3_3) (hc3_3 : l3_3.length ≤ c3_3) (h : warp_Draw.f k a0_0 a0_1 l0_2 a1_0 a1_1 a2_0 a2_1 a2_2 a2_3 a3_0 a3_1 a3_2 l3_3 a4 a5_0 a5_1 a5_2 a5_3 = some (r1, r2, r3, r4)) :
  Calls Try.prog 19 #[.agg #[.int .i64 a0_0, .int .i64 a0_1, .slice A0_2 l0_2.length c0_2], .agg #[.int .i64 a1_0, .int .i64 a1_1], .agg #[.int .i64 a2_0, .int .i64 a2_1, .int .i64 a2_2, .int .i64 a2_3], .agg #[.int .i64 a3_0, .int .i64 a3_1, .int .i64 a3_2, .slice A3_3 l3_3.length c3_3], .int .i64 a4, .agg #[.int .i64 a5_0, .int .i64 a5_1, .int .i64 a5_2, .int .i64 a5_3]] w fun e w' => ∃ v2_ : Value, e = .returned (.tuple #[.agg #[.int .i64 r1, .int .i64 r2, v2_], .int .i64 r4]) ∧ Kd.R k48 48 w' w.heap.size (fun _ => True) v2_ r3 ∧ Below w.heap.size w w' := by
 have hu40 := Try.underlying40
 have hu28 := Try.underlying28
 have hu34 := Try.underlying34
 have hu24 := Try.underlying24
 have hu72 := Try.underlying72
 have E0n := Aside0.mk hr0_2
 have E0o := Aside0.mk hc0_2
 clear hr0_2 hc0_2
 have E0Y := Aside0.mk hr3_3
 have E0Z := Aside0.mk hc3_3
 clear hr3_3 hc3_3
 have HB := Aside0.mk (Below.refl w.heap.size w)
 have H : ((raster_Check.f k a0_0 a0_1 l0_2).bind fun t345 => (if t345 = 0 then ((warp_Needs.f k a3_0 a3_1 a3_2 l3_3 a4 a5_0 a5_1 a5_2 a5_3 a2_0 a2_1 a2_2 a2_3).bind fun Y1 => (if Y1.2.2.2.2 = 0 then ((warp_covers.f a0_0 a0_1 l0_2 a1_0 a1_1 Y1.1 Y1.2.1 Y1.2.2.1 Y1.2.2.2.1).bind fun t352 => (if t352 = true then (if 0 ≤ (wrap64 (a5_2 * a5_3)) then (if (wrap64 (a5_2 * a5_3) : Int).toNat ≤ 8796093022208 then (warp_Draw.l0 k a4 a5_1 a0_0 a0_1 l0_2 a1_0 a1_1 a2_0 a2_1 a2_2 a2_3 a3_0 a3_1 a3_2 l3_3 a5_0 a5_1 a5_2 a5_3 a5_2 a5_3 (([] : List (S48)))) else (none)) else (none)) else (some (0, 0, ([] : List (S48)), 15)))) else (some (0, 0, ([] : List (S48)), Y1.2.2.2.2)))) else (some (0, 0, ([] : List (S48)), t345)))) = some (r1, r2, r3, r4) := h
 clear h
 replace H := Option.bind_eq_some_iff.mp H
 obtain ⟨t345, A70, H⟩ := H
 try dsimp only at H
 have A7 := Aside0.mk A70
 clear A70
 by_cases c8 : t345 = 0
 rotate_left
 ·rw [if_neg c8] at H
  have E0P : (t345 == 0) = false := beq_eq_false_iff_ne.mpr c8
  have E0Q : (t345 != 0) = true := bne_iff_ne.mpr c8
  as_aux_lemma =>
   simp only [Option.some.injEq, Prod.mk.injEq] at H
   obtain ⟨rfl, rfl, rfl, rfl⟩ := H
   go_enter Try.func19, Try.ntmps19
   go_wp2_with (first | ((with_reducible refine gate_dst (N := 6) rfl ?_); refine box_event ?hg (N := 6) ?hd (cs := #[.int .i64 a0_0, .int .i64 a0_1, .slice A0_2 l0_2.length c0_2]) (t := 40) ?hr ?_; (case hd => rfl); (case hg => rfl); (case hr => first | (go_simp; done) | (go_simp; rfl)); intro V7 hg w219 hbox hb; have E2l := zg HB hg; have E2m := zg HB hg; have n0_ := Aside0.mk (hbox); replace HB := zb HB hb; have E0 := n0_; clear n0_; clear hb hbox hg) | ((with_reducible refine gate_dst (N := 7) rfl ?_); refine box_event ?hg (N := 7) ?hd (cs := #[.int .i64 a1_0, .int .i64 a1_1]) (t := 28) ?hr ?_; (case hd => rfl); (case hg => rfl); (case hr => first | (go_simp; done) | (go_simp; rfl)); intro V8 hg w220 hbox hb; have E2n := zg HB hg; have E2o := zg HB hg; have E0p := zn E0 hg; have E0q := zn' E0 hg; have n0_ := Aside0.mk (hbox); replace E0 := zk E0 hb; replace HB := zb HB hb; have E1 := n0_; clear n0_; clear hb hbox hg) | ((with_reducible refine gate_dst (N := 8) rfl ?_); refine box_event ?hg (N := 8) ?hd (cs := #[.int .i64 a2_0, .int .i64 a2_1, .int .i64 a2_2, .int .i64 a2_3]) (t := 34) ?hr ?_; (case hd => rfl); (case hg => rfl); (case hr => first | (go_simp; done) | (go_simp; rfl)); intro V9 hg w221 hbox hb; have E2p := zg HB hg; have E2q := zg HB hg; have E0r := zn E0 hg; have E0s := zn' E0 hg; have E0E := zn E1 hg; have E0F := zn' E1 hg; have n0_ := Aside0.mk (hbox); replace E0 := zk E0 hb; replace E1 := zk E1 hb; replace HB := zb HB hb; have E2 := n0_; clear n0_; clear hb hbox hg) | ((with_reducible refine gate_dst (N := 9) rfl ?_); refine box_event ?hg (N := 9) ?hd (cs := #[.int .i64 a3_0, .int .i64 a3_1, .int .i64 a3_2, .slice A3_3 l3_3.length c3_3]) (t := 24) ?hr ?_; (case hd => rfl); (case hg => rfl); (case hr => first | (go_simp; done) | (go_simp; rfl)); intro Y2 hg w222 hbox hb; have E2r := zg HB hg; have E2s := zg HB hg; have Q6 := zn E0 hg; have Q7 := zn' E0 hg; have E0t := zn E1 hg; have E0u := zn' E1 hg; have E0v := zn E2 hg; have E0w := zn' E2 hg; have n0_ := Aside0.mk (hbox); replace E0 := zk E0 hb; replace E1 := zk E1 hb; replace E2 := zk E2 hb; replace HB := zb HB hb; have E4 := n0_; clear n0_; clear hb hbox hg) | ((with_reducible refine gate_dst (N := 11) rfl ?_); refine box_event ?hg (N := 11) ?hd (cs := #[.int .i64 a5_0, .int .i64 a5_1, .int .i64 a5_2, .int .i64 a5_3]) (t := 34) ?hr ?_; (case hd => rfl); (case hg => rfl); (case hr => first | (go_simp; done) | (go_simp; rfl)); intro V2 hg w223 hbox hb; have E2t := zg HB hg; have E2u := zg HB hg; have L4 := zn E0 hg; have L5 := zn' E0 hg; have Q8 := zn E1 hg; have Q9 := zn' E1 hg; have E0a := zn E2 hg; have E0b := zn' E2 hg; have E0c := zn E4 hg; have E0d := zn' E4 hg; have n0_ := Aside0.mk (hbox); replace E0 := zk E0 hb; replace E1 := zk E1 hb; replace E2 := zk E2 hb; replace E4 := zk E4 hb; replace HB := zb HB hb; have E3 := n0_; clear n0_; clear hb hbox hg) | ((with_reducible refine gate_dst (N := 12) rfl ?_); refine box_event ?hg (N := 12) ?hd (cs := #[.int .i64 0, .int .i64 0, .slice none 0 0]) (t := 40) ?hr ?_; (case hd => rfl); (case hg => rfl); (case hr => first | (go_simp; done) | (go_simp; rfl)); intro V6 hg w224 hbox hb; have E2v := zg HB hg; have E0x := zg HB hg; have E0e := zn E0 hg; have E0f := zn' E0 hg; have E0g := zn E1 hg; have E0h := zn' E1 hg; have E0i := zn E2 hg; have E0j := zn' E2 hg; have L6 := zn E4 hg; have L7 := zn' E4 hg; have L8 := zn E3 hg; have L9 := zn' E3 hg; have n0_ := Aside0.mk (hbox); replace E0 := zk E0 hb; replace E1 := zk E1 hb; replace E2 := zk E2 hb; replace E4 := zk E4 hb; replace E3 := zk E3 hb; replace HB := zb HB hb; have E5 := n0_; clear n0_; clear hb hbox hg; have E3G := E0p.out; have E3H := E0q.out; have E3I := E0r.out; have E3J := E0s.out; have E3K := Q6.out; have E3L := Q7.out; have E3M := L4.out; have E3N := L5.out; have E3O := E0e.out; have E3P := E0f.out; obtain ⟨E3Q, E3R, E3S, E3T, E3U, E3V⟩ := zq3 E0) | ((with_reducible refine gate_callee (f := 22) rfl ?_); refine goesL_ (some 32) rfl rfl Try.func22 (by kernel_rfl) rfl #[.agg #[.int .i64 a0_0, .int .i64 a0_1, .slice A0_2 l0_2.length c0_2]] rfl (by (try simp only [List.map_toArray, List.map_cons, List.map_nil]); first | done | rfl | (simp only [List.length_drop, List.length_take]; rfl)) ?_; (with_reducible refine (raster_Check.calls k a0_0 a0_1 _ _ l0_2 t345 _ ?side1 ?side2 A7.out).mono ?_); (case side1 => repeat (first | exact (Kd.C_below E0n.out HB.out) | (with_reducible refine Kd.C_alloc ?_ _) | (with_reducible refine Kd.C_drewN ?_ _) | (with_reducible refine Kd.C_drew ?_))); (case side2 => exact E0o.out); rintro e w231 ⟨rfl, hb⟩; refine ⟨_, rfl, ?_⟩; replace E0 := zk E0 hb; replace E1 := zk E1 hb; replace E2 := zk E2 hb; replace E4 := zk E4 hb; replace E3 := zk E3 hb; replace E5 := zk E5 hb; replace HB := zb HB hb; (try clear hb); have E3W := E0h.out; have E3X := E0g.out; have E3Y := E0j.out; have E3Z := E0i.out; have E4a := L7.out; have E4b := L6.out; have E4c := L9.out; have E4d := L8.out; obtain ⟨E4e, E4f, E4g, E4h, E4i, E4j⟩ := zq3 E5))
   refine bodyPost_ret (results_ct rfl _ _ V6 40 #[.int .i64 0, .int .i64 0, .slice none 0 0] (0, 0) _ rfl (by exact zp E5 rfl) Try.underlying40 rfl (by kernel_rfl)) rfl ?_
   exact ⟨_, by first | rfl | (simp [errW_none, errW_some] <;> rfl) | (simp [*, errW_none, errW_some] <;> rfl), by first | exact Kd.R_nil _ _ _ _ _ | exact Kd.N_nil _ _ _ _ _ | exact Kd.V_nil _ _ _ _ _ | exact Kd.Q_nil _ _ _ _ _ | exact Kd.S_nil _ _ _ _ _, by exact zbo HB E0x⟩

 rw [if_pos c8] at H
 have E0P : (t345 == 0) = true := beq_iff_eq.mpr c8
 have E0Q : (t345 != 0) = false := bne_eq_false_iff_eq.mpr c8
 clear c8
 replace H := Option.bind_eq_some_iff.mp H
 obtain ⟨⟨t346, t347, t348, t349, t350⟩, A90, H⟩ := H
 try dsimp only at H
 have A9 := Aside0.mk A90
 clear A90
 by_cases c10 : t350 = 0
 rotate_left
 ·rw [if_neg c10] at H
  have E0R : (t350 == 0) = false := beq_eq_false_iff_ne.mpr c10
  have E0S : (t350 != 0) = true := bne_iff_ne.mpr c10
  as_aux_lemma =>
   simp only [Option.some.injEq, Prod.mk.injEq] at H
   obtain ⟨rfl, rfl, rfl, rfl⟩ := H
   go_enter Try.func19, Try.ntmps19
   go_wp2_with (first | ((with_reducible refine gate_dst (N := 6) rfl ?_); refine box_event ?hg (N := 6) ?hd (cs := #[.int .i64 a0_0, .int .i64 a0_1, .slice A0_2 l0_2.length c0_2]) (t := 40) ?hr ?_; (case hd => rfl); (case hg => rfl); (case hr => first | (go_simp; done) | (go_simp; rfl)); intro V7 hg w183 hbox hb; have E2l := zg HB hg; have E2m := zg HB hg; have n0_ := Aside0.mk (hbox); replace HB := zb HB hb; have E0 := n0_; clear n0_; clear hb hbox hg) | ((with_reducible refine gate_dst (N := 7) rfl ?_); refine box_event ?hg (N := 7) ?hd (cs := #[.int .i64 a1_0, .int .i64 a1_1]) (t := 28) ?hr ?_; (case hd => rfl); (case hg => rfl); (case hr => first | (go_simp; done) | (go_simp; rfl)); intro V8 hg w184 hbox hb; have E2n := zg HB hg; have E2o := zg HB hg; have E0p := zn E0 hg; have E0q := zn' E0 hg; have n0_ := Aside0.mk (hbox); replace E0 := zk E0 hb; replace HB := zb HB hb; have E1 := n0_; clear n0_; clear hb hbox hg) | ((with_reducible refine gate_dst (N := 8) rfl ?_); refine box_event ?hg (N := 8) ?hd (cs := #[.int .i64 a2_0, .int .i64 a2_1, .int .i64 a2_2, .int .i64 a2_3]) (t := 34) ?hr ?_; (case hd => rfl); (case hg => rfl); (case hr => first | (go_simp; done) | (go_simp; rfl)); intro V9 hg w185 hbox hb; have E2p := zg HB hg; have E2q := zg HB hg; have E0r := zn E0 hg; have E0s := zn' E0 hg; have E0E := zn E1 hg; have E0F := zn' E1 hg; have n0_ := Aside0.mk (hbox); replace E0 := zk E0 hb; replace E1 := zk E1 hb; replace HB := zb HB hb; have E2 := n0_; clear n0_; clear hb hbox hg) | ((with_reducible refine gate_dst (N := 9) rfl ?_); refine box_event ?hg (N := 9) ?hd (cs := #[.int .i64 a3_0, .int .i64 a3_1, .int .i64 a3_2, .slice A3_3 l3_3.length c3_3]) (t := 24) ?hr ?_; (case hd => rfl); (case hg => rfl); (case hr => first | (go_simp; done) | (go_simp; rfl)); intro Y2 hg w186 hbox hb; have E2r := zg HB hg; have E2s := zg HB hg; have Q6 := zn E0 hg; have Q7 := zn' E0 hg; have E0t := zn E1 hg; have E0u := zn' E1 hg; have E0v := zn E2 hg; have E0w := zn' E2 hg; have n0_ := Aside0.mk (hbox); replace E0 := zk E0 hb; replace E1 := zk E1 hb; replace E2 := zk E2 hb; replace HB := zb HB hb; have E4 := n0_; clear n0_; clear hb hbox hg) | ((with_reducible refine gate_dst (N := 11) rfl ?_); refine box_event ?hg (N := 11) ?hd (cs := #[.int .i64 a5_0, .int .i64 a5_1, .int .i64 a5_2, .int .i64 a5_3]) (t := 34) ?hr ?_; (case hd => rfl); (case hg => rfl); (case hr => first | (go_simp; done) | (go_simp; rfl)); intro V2 hg w187 hbox hb; have E2t := zg HB hg; have E2u := zg HB hg; have L4 := zn E0 hg; have L5 := zn' E0 hg; have Q8 := zn E1 hg; have Q9 := zn' E1 hg; have E0a := zn E2 hg; have E0b := zn' E2 hg; have E0c := zn E4 hg; have E0d := zn' E4 hg; have n0_ := Aside0.mk (hbox); replace E0 := zk E0 hb; replace E1 := zk E1 hb; replace E2 := zk E2 hb; replace E4 := zk E4 hb; replace HB := zb HB hb; have E3 := n0_; clear n0_; clear hb hbox hg) | ((with_reducible refine gate_dst (N := 12) rfl ?_); refine box_event ?hg (N := 12) ?hd (cs := #[.int .i64 0, .int .i64 0, .slice none 0 0]) (t := 40) ?hr ?_; (case hd => rfl); (case hg => rfl); (case hr => first | (go_simp; done) | (go_simp; rfl)); intro V6 hg w188 hbox hb; have E2v := zg HB hg; have E0x := zg HB hg; have E0e := zn E0 hg; have E0f := zn' E0 hg; have E0g := zn E1 hg; have E0h := zn' E1 hg; have E0i := zn E2 hg; have E0j := zn' E2 hg; have L6 := zn E4 hg; have L7 := zn' E4 hg; have L8 := zn E3 hg; have L9 := zn' E3 hg; have n0_ := Aside0.mk (hbox); replace E0 := zk E0 hb; replace E1 := zk E1 hb; replace E2 := zk E2 hb; replace E4 := zk E4 hb; replace E3 := zk E3 hb; replace HB := zb HB hb; have E5 := n0_; clear n0_; clear hb hbox hg; have E4k := E0p.out; have E4l := E0q.out; have E4m := E0r.out; have E4n := E0s.out; have E4o := Q6.out; have E4p := Q7.out; have E4q := L4.out; have E4r := L5.out; have E4s := E0e.out; have E4t := E0f.out; obtain ⟨E4u, E4v, E4w, E4x, E4y, E4z⟩ := zq3 E0) | ((with_reducible refine gate_callee (f := 22) rfl ?_); refine goesL_ (some 32) rfl rfl Try.func22 (by kernel_rfl) rfl #[.agg #[.int .i64 a0_0, .int .i64 a0_1, .slice A0_2 l0_2.length c0_2]] rfl (by (try simp only [List.map_toArray, List.map_cons, List.map_nil]); first | done | rfl | (simp only [List.length_drop, List.length_take]; rfl)) ?_; (with_reducible refine (raster_Check.calls k a0_0 a0_1 _ _ l0_2 t345 _ ?side1 ?side2 A7.out).mono ?_); (case side1 => repeat (first | exact (Kd.C_below E0n.out HB.out) | (with_reducible refine Kd.C_alloc ?_ _) | (with_reducible refine Kd.C_drewN ?_ _) | (with_reducible refine Kd.C_drew ?_))); (case side2 => exact E0o.out); rintro e w195 ⟨rfl, hb⟩; refine ⟨_, rfl, ?_⟩; replace E0 := zk E0 hb; replace E1 := zk E1 hb; replace E2 := zk E2 hb; replace E4 := zk E4 hb; replace E3 := zk E3 hb; replace E5 := zk E5 hb; replace HB := zb HB hb; (try clear hb); have E4A := E0u.out; have E4B := E0t.out; have E4C := E0w.out; have E4D := E0v.out; have E4E := E0c.out; have E4F := E0d.out; have E4G := L6.out; have E4H := L7.out; obtain ⟨E4I, E4J, E4K, E4L, E4M, E4N, E4O, E4P⟩ := zq4 E4; have E4Q := Q9.out; have E4R := Q8.out; have E4S := E0b.out; have E4T := E0a.out; have E4U := L8.out; have E4V := L9.out; obtain ⟨E4W, E4X, E4Y, E4Z, E5a, E5b, E5c, E5d⟩ := zq4 E3; have E5e := E0F.out; have E5f := E0E.out; have E5g := E0i.out; have E5h := E0j.out; obtain ⟨E5i, E5j, E5k, E5l, E5m, E5n, E5o, E5p⟩ := zq4 E2) | ((with_reducible refine gate_callee (f := 17) rfl ?_); refine goesL_ (some 42) rfl rfl Try.func17 (by kernel_rfl) rfl #[.agg #[.int .i64 a3_0, .int .i64 a3_1, .int .i64 a3_2, .slice A3_3 l3_3.length c3_3], .int .i64 a4, .agg #[.int .i64 a5_0, .int .i64 a5_1, .int .i64 a5_2, .int .i64 a5_3], .agg #[.int .i64 a2_0, .int .i64 a2_1, .int .i64 a2_2, .int .i64 a2_3]] rfl (by (try simp only [List.map_toArray, List.map_cons, List.map_nil]); first | done | rfl | (simp only [List.length_drop, List.length_take]; rfl)) ?_; (with_reducible refine (warp_Needs.calls k a3_0 a3_1 a3_2 _ _ l3_3 a4 a5_0 a5_1 a5_2 a5_3 a2_0 a2_1 a2_2 a2_3 t346 t347 t348 t349 t350 _ ?side1 ?side2 A9.out).mono ?_); (case side1 => repeat (first | exact (Kd.C_below E0Y.out HB.out) | (with_reducible refine Kd.C_alloc ?_ _) | (with_reducible refine Kd.C_drewN ?_ _) | (with_reducible refine Kd.C_drew ?_))); (case side2 => exact E0Z.out); rintro e w208 ⟨rfl, hb⟩; refine ⟨_, rfl, ?_⟩; replace E0 := zk E0 hb; replace E1 := zk E1 hb; replace E2 := zk E2 hb; replace E4 := zk E4 hb; replace E3 := zk E3 hb; replace E5 := zk E5 hb; replace HB := zb HB hb; (try clear hb)) | ((with_reducible refine gate_dst (N := 15) rfl ?_); refine box_event ?hg (N := 15) ?hd (cs := #[.int .i64 0, .int .i64 0, .int .i64 0, .int .i64 0]) (t := 34) ?hr ?_; (case hd => rfl); (case hg => rfl); (case hr => first | (go_simp; done) | (go_simp; rfl)); intro Y0 hg w209 hbox hb; have E2K := zg HB hg; have E0y := zg HB hg; have E0z := zn E0 hg; have E0T := zn' E0 hg; have E0A := zn E1 hg; have E0U := zn' E1 hg; have E0B := zn E2 hg; have E0V := zn' E2 hg; have E0k := zn E4 hg; have E0G := zn' E4 hg; have Q0 := zn E3 hg; have E0C := zn' E3 hg; have Y6 := zn E5 hg; have E0H := zn' E5 hg; have n0_ := Aside0.mk (hbox); replace E0 := zk E0 hb; replace E1 := zk E1 hb; replace E2 := zk E2 hb; replace E4 := zk E4 hb; replace E3 := zk E3 hb; replace E5 := zk E5 hb; replace HB := zb HB hb; have E6 := n0_; clear n0_; clear hb hbox hg; have E5q := E0T.out; have E5r := E0z.out; have E5s := E0U.out; have E5t := E0A.out; have E5u := E0V.out; have E5v := E0B.out; have E5w := E0G.out; have E5x := E0k.out; have E5y := E0C.out; have E5z := Q0.out; have E5A := E0H.out; have E5B := Y6.out; obtain ⟨E5C, E5D, E5E, E5F, E5G, E5H, E5I, E5J⟩ := zq4 E6; have E5K := E0h.out; have E5L := E0g.out; obtain ⟨E5M, E5N, E5O, E5P, E5Q, E5R⟩ := zq3 E5))
   refine bodyPost_ret (results_ct rfl _ _ V6 40 #[.int .i64 0, .int .i64 0, .slice none 0 0] (0, 0) _ rfl (by (with_reducible repeat (first | refine blk_drewN ?_ _ | refine blk_drew ?_ | refine blk_alloc ?_ _)); refine blk_put (cs := #[.int .i64 0, .int .i64 0, .slice none 0 0]) ?_ 2 _ rfl; (with_reducible repeat (first | refine blk_drewN ?_ _ | refine blk_drew ?_ | refine blk_alloc ?_ _)); refine blk_put (cs := #[.int .i64 0, .int .i64 0, .slice none 0 0]) ?_ 1 _ rfl; (with_reducible repeat (first | refine blk_drewN ?_ _ | refine blk_drew ?_ | refine blk_alloc ?_ _)); refine blk_put (cs := #[.int .i64 0, .int .i64 0, .slice none 0 0]) ?_ 0 _ rfl; (with_reducible repeat (first | refine blk_drewN ?_ _ | refine blk_drew ?_ | refine blk_alloc ?_ _)); refine blk_far ?_ Y6.out _; (with_reducible repeat (first | refine blk_drewN ?_ _ | refine blk_drew ?_ | refine blk_alloc ?_ _)); refine blk_far ?_ Y6.out _; (with_reducible repeat (first | refine blk_drewN ?_ _ | refine blk_drew ?_ | refine blk_alloc ?_ _)); refine blk_far ?_ Y6.out _; (with_reducible repeat (first | refine blk_drewN ?_ _ | refine blk_drew ?_ | refine blk_alloc ?_ _)); refine blk_far ?_ Y6.out _; (with_reducible repeat (first | refine blk_drewN ?_ _ | refine blk_drew ?_ | refine blk_alloc ?_ _)); exact E5.out) Try.underlying40 rfl (by kernel_rfl)) rfl ?_
   exact ⟨_, by first | rfl | (simp [errW_none, errW_some] <;> rfl) | (simp [*, errW_none, errW_some] <;> rfl), by first | exact Kd.R_nil _ _ _ _ _ | exact Kd.N_nil _ _ _ _ _ | exact Kd.V_nil _ _ _ _ _ | exact Kd.Q_nil _ _ _ _ _ | exact Kd.S_nil _ _ _ _ _, by repeat (first | (with_reducible first | exact HB.out | apply below_alloc | apply pw_below_drewN | apply below_drew1 | refine below_set ?_ E0x.out | refine below_set ?_ E0y.out) | exact HB.out)⟩
 rw [if_pos c10] at H
 have E0R : (t350 == 0) = true := beq_iff_eq.mpr c10
 have E0S : (t350 != 0) = false := bne_eq_false_iff_eq.mpr c10
 clear c10
 replace H := Option.bind_eq_some_iff.mp H
 obtain ⟨t352, A110, H⟩ := H
 try dsimp only at H
 have A11 := Aside0.mk A110
 clear A110
 by_cases c12 : t352 = true
 rotate_left
 ·replace c12 := Bool.eq_false_iff.mpr c12
  subst c12
  rw [if_neg (show ¬ (false = true) by decide)] at H
  as_aux_lemma =>
   simp only [Option.some.injEq, Prod.mk.injEq] at H
   obtain ⟨rfl, rfl, rfl, rfl⟩ := H
   go_enter Try.func19, Try.ntmps19
   go_wp2_with (first | ((with_reducible refine gate_dst (N := 6) rfl ?_); refine box_event ?hg (N := 6) ?hd (cs := #[.int .i64 a0_0, .int .i64 a0_1, .slice A0_2 l0_2.length c0_2]) (t := 40) ?hr ?_; (case hd => rfl); (case hg => rfl); (case hr => first | (go_simp; done) | (go_simp; rfl)); intro V7 hg w144 hbox hb; have E2l := zg HB hg; have E2m := zg HB hg; have n0_ := Aside0.mk (hbox); replace HB := zb HB hb; have E0 := n0_; clear n0_; clear hb hbox hg) | ((with_reducible refine gate_dst (N := 7) rfl ?_); refine box_event ?hg (N := 7) ?hd (cs := #[.int .i64 a1_0, .int .i64 a1_1]) (t := 28) ?hr ?_; (case hd => rfl); (case hg => rfl); (case hr => first | (go_simp; done) | (go_simp; rfl)); intro V8 hg w145 hbox hb; have E2n := zg HB hg; have E2o := zg HB hg; have E0p := zn E0 hg; have E0q := zn' E0 hg; have n0_ := Aside0.mk (hbox); replace E0 := zk E0 hb; replace HB := zb HB hb; have E1 := n0_; clear n0_; clear hb hbox hg) | ((with_reducible refine gate_dst (N := 8) rfl ?_); refine box_event ?hg (N := 8) ?hd (cs := #[.int .i64 a2_0, .int .i64 a2_1, .int .i64 a2_2, .int .i64 a2_3]) (t := 34) ?hr ?_; (case hd => rfl); (case hg => rfl); (case hr => first | (go_simp; done) | (go_simp; rfl)); intro V9 hg w146 hbox hb; have E2p := zg HB hg; have E2q := zg HB hg; have E0r := zn E0 hg; have E0s := zn' E0 hg; have E0E := zn E1 hg; have E0F := zn' E1 hg; have n0_ := Aside0.mk (hbox); replace E0 := zk E0 hb; replace E1 := zk E1 hb; replace HB := zb HB hb; have E2 := n0_; clear n0_; clear hb hbox hg) | ((with_reducible refine gate_dst (N := 9) rfl ?_); refine box_event ?hg (N := 9) ?hd (cs := #[.int .i64 a3_0, .int .i64 a3_1, .int .i64 a3_2, .slice A3_3 l3_3.length c3_3]) (t := 24) ?hr ?_; (case hd => rfl); (case hg => rfl); (case hr => first | (go_simp; done) | (go_simp; rfl)); intro Y2 hg w147 hbox hb; have E2r := zg HB hg; have E2s := zg HB hg; have Q6 := zn E0 hg; have Q7 := zn' E0 hg; have E0t := zn E1 hg; have E0u := zn' E1 hg; have E0v := zn E2 hg; have E0w := zn' E2 hg; have n0_ := Aside0.mk (hbox); replace E0 := zk E0 hb; replace E1 := zk E1 hb; replace E2 := zk E2 hb; replace HB := zb HB hb; have E4 := n0_; clear n0_; clear hb hbox hg) | ((with_reducible refine gate_dst (N := 11) rfl ?_); refine box_event ?hg (N := 11) ?hd (cs := #[.int .i64 a5_0, .int .i64 a5_1, .int .i64 a5_2, .int .i64 a5_3]) (t := 34) ?hr ?_; (case hd => rfl); (case hg => rfl); (case hr => first | (go_simp; done) | (go_simp; rfl)); intro V2 hg w148 hbox hb; have E2t := zg HB hg; have E2u := zg HB hg; have L4 := zn E0 hg; have L5 := zn' E0 hg; have Q8 := zn E1 hg; have Q9 := zn' E1 hg; have E0a := zn E2 hg; have E0b := zn' E2 hg; have E0c := zn E4 hg; have E0d := zn' E4 hg; have n0_ := Aside0.mk (hbox); replace E0 := zk E0 hb; replace E1 := zk E1 hb; replace E2 := zk E2 hb; replace E4 := zk E4 hb; replace HB := zb HB hb; have E3 := n0_; clear n0_; clear hb hbox hg) | ((with_reducible refine gate_dst (N := 12) rfl ?_); refine box_event ?hg (N := 12) ?hd (cs := #[.int .i64 0, .int .i64 0, .slice none 0 0]) (t := 40) ?hr ?_; (case hd => rfl); (case hg => rfl); (case hr => first | (go_simp; done) | (go_simp; rfl)); intro V6 hg w149 hbox hb; have E2v := zg HB hg; have E0x := zg HB hg; have E0e := zn E0 hg; have E0f := zn' E0 hg; have E0g := zn E1 hg; have E0h := zn' E1 hg; have E0i := zn E2 hg; have E0j := zn' E2 hg; have L6 := zn E4 hg; have L7 := zn' E4 hg; have L8 := zn E3 hg; have L9 := zn' E3 hg; have n0_ := Aside0.mk (hbox); replace E0 := zk E0 hb; replace E1 := zk E1 hb; replace E2 := zk E2 hb; replace E4 := zk E4 hb; replace E3 := zk E3 hb; replace HB := zb HB hb; have E5 := n0_; clear n0_; clear hb hbox hg; have E5S := E0p.out; have E5T := E0q.out; have E5U := E0r.out; have E5V := E0s.out; have E5W := Q6.out; have E5X := Q7.out; have E5Y := L4.out; have E5Z := L5.out; have E6a := E0e.out; have E6b := E0f.out; obtain ⟨E6c, E6d, E6e, E6f, E6g, E6h⟩ := zq3 E0) | ((with_reducible refine gate_callee (f := 22) rfl ?_); refine goesL_ (some 32) rfl rfl Try.func22 (by kernel_rfl) rfl #[.agg #[.int .i64 a0_0, .int .i64 a0_1, .slice A0_2 l0_2.length c0_2]] rfl (by (try simp only [List.map_toArray, List.map_cons, List.map_nil]); first | done | rfl | (simp only [List.length_drop, List.length_take]; rfl)) ?_; (with_reducible refine (raster_Check.calls k a0_0 a0_1 _ _ l0_2 t345 _ ?side1 ?side2 A7.out).mono ?_); (case side1 => repeat (first | exact (Kd.C_below E0n.out HB.out) | (with_reducible refine Kd.C_alloc ?_ _) | (with_reducible refine Kd.C_drewN ?_ _) | (with_reducible refine Kd.C_drew ?_))); (case side2 => exact E0o.out); rintro e w156 ⟨rfl, hb⟩; refine ⟨_, rfl, ?_⟩; replace E0 := zk E0 hb; replace E1 := zk E1 hb; replace E2 := zk E2 hb; replace E4 := zk E4 hb; replace E3 := zk E3 hb; replace E5 := zk E5 hb; replace HB := zb HB hb; (try clear hb); have E6i := E0u.out; have E6j := E0t.out; have E6k := E0w.out; have E6l := E0v.out; have E6m := E0c.out; have E6n := E0d.out; have E6o := L6.out; have E6p := L7.out; obtain ⟨E6q, E6r, E6s, E6t, E6u, E6v, E6w, E6x⟩ := zq4 E4; have E6y := Q9.out; have E6z := Q8.out; have E6A := E0b.out; have E6B := E0a.out; have E6C := L8.out; have E6D := L9.out; obtain ⟨E6E, E6F, E6G, E6H, E6I, E6J, E6K, E6L⟩ := zq4 E3; have E6M := E0F.out; have E6N := E0E.out; have E6O := E0i.out; have E6P := E0j.out; obtain ⟨E6Q, E6R, E6S, E6T, E6U, E6V, E6W, E6X⟩ := zq4 E2) | ((with_reducible refine gate_callee (f := 17) rfl ?_); refine goesL_ (some 42) rfl rfl Try.func17 (by kernel_rfl) rfl #[.agg #[.int .i64 a3_0, .int .i64 a3_1, .int .i64 a3_2, .slice A3_3 l3_3.length c3_3], .int .i64 a4, .agg #[.int .i64 a5_0, .int .i64 a5_1, .int .i64 a5_2, .int .i64 a5_3], .agg #[.int .i64 a2_0, .int .i64 a2_1, .int .i64 a2_2, .int .i64 a2_3]] rfl (by (try simp only [List.map_toArray, List.map_cons, List.map_nil]); first | done | rfl | (simp only [List.length_drop, List.length_take]; rfl)) ?_; (with_reducible refine (warp_Needs.calls k a3_0 a3_1 a3_2 _ _ l3_3 a4 a5_0 a5_1 a5_2 a5_3 a2_0 a2_1 a2_2 a2_3 t346 t347 t348 t349 t350 _ ?side1 ?side2 A9.out).mono ?_); (case side1 => repeat (first | exact (Kd.C_below E0Y.out HB.out) | (with_reducible refine Kd.C_alloc ?_ _) | (with_reducible refine Kd.C_drewN ?_ _) | (with_reducible refine Kd.C_drew ?_))); (case side2 => exact E0Z.out); rintro e w169 ⟨rfl, hb⟩; refine ⟨_, rfl, ?_⟩; replace E0 := zk E0 hb; replace E1 := zk E1 hb; replace E2 := zk E2 hb; replace E4 := zk E4 hb; replace E3 := zk E3 hb; replace E5 := zk E5 hb; replace HB := zb HB hb; (try clear hb)) | ((with_reducible refine gate_dst (N := 15) rfl ?_); refine box_event ?hg (N := 15) ?hd (cs := #[.int .i64 0, .int .i64 0, .int .i64 0, .int .i64 0]) (t := 34) ?hr ?_; (case hd => rfl); (case hg => rfl); (case hr => first | (go_simp; done) | (go_simp; rfl)); intro Y0 hg w170 hbox hb; have E2K := zg HB hg; have E0y := zg HB hg; have E0z := zn E0 hg; have E0T := zn' E0 hg; have E0A := zn E1 hg; have E0U := zn' E1 hg; have E0B := zn E2 hg; have E0V := zn' E2 hg; have E0k := zn E4 hg; have E0G := zn' E4 hg; have Q0 := zn E3 hg; have E0C := zn' E3 hg; have Y6 := zn E5 hg; have E0H := zn' E5 hg; have n0_ := Aside0.mk (hbox); replace E0 := zk E0 hb; replace E1 := zk E1 hb; replace E2 := zk E2 hb; replace E4 := zk E4 hb; replace E3 := zk E3 hb; replace E5 := zk E5 hb; replace HB := zb HB hb; have E6 := n0_; clear n0_; clear hb hbox hg; have E6Y := E0T.out; have E6Z := E0z.out; have E7a := E0U.out; have E7b := E0A.out; have E7c := E0V.out; have E7d := E0B.out; have E7e := E0G.out; have E7f := E0k.out; have E7g := E0C.out; have E7h := Q0.out; have E7i := E0H.out; have E7j := Y6.out; obtain ⟨E7k, E7l, E7m, E7n, E7o, E7p, E7q, E7r⟩ := zq4 E6; obtain ⟨E7s, E7t, E7u, E7v, E7w, E7x⟩ := zq3 E0; have E7y := E0g.out; have E7z := E0h.out; obtain ⟨E7A, E7B, E7C, E7D⟩ := zq2 E1) | ((with_reducible refine gate_callee (f := 47) rfl ?_); refine goesL_ (some 52) rfl rfl Try.func47 (by kernel_rfl) rfl #[.agg #[.int .i64 a0_0, .int .i64 a0_1, .slice A0_2 l0_2.length c0_2], .agg #[.int .i64 a1_0, .int .i64 a1_1], .agg #[.int .i64 t346, .int .i64 t347, .int .i64 t348, .int .i64 t349]] rfl (by (try simp only [List.map_toArray, List.map_cons, List.map_nil]); first | done | rfl | (simp only [List.length_drop, List.length_take]; rfl)) ?_; (with_reducible refine (warp_covers.calls a0_0 a0_1 _ _ l0_2 a1_0 a1_1 t346 t347 t348 t349 false _ ?side1 ?side2 A11.out).mono ?_); (case side1 => exact Kd.C_below E0n.out (by exact zbo HB E0y)); (case side2 => exact E0o.out); rintro e w181 ⟨rfl, hb⟩; refine ⟨_, rfl, ?_⟩; have n0_ := Aside0.mk (blk_below (g := Y0) (o := .cells #[.int .i64 t346, .int .i64 t347, .int .i64 t348, .int .i64 t349] 34 (0, 0)) (by exact zp E6 rfl) hb); have n1_ := Aside0.mk (below_step (by exact zbo HB E0y) hb); replace E0 := zfk E0 E0z hb; replace E1 := zfk E1 E0A hb; replace E2 := zfk E2 E0B hb; replace E4 := zfk E4 E0k hb; replace E3 := zfk E3 Q0 hb; replace E5 := zfk E5 Y6 hb; clear E6; clear HB; have E6 := n0_; have HB := n1_; clear n0_ n1_; (try clear hb); obtain ⟨E7E, E7F, E7G, E7H, E7I, E7J⟩ := zq3 E5))
   refine bodyPost_ret (results_ct rfl _ _ V6 40 #[.int .i64 0, .int .i64 0, .slice none 0 0] (0, 0) _ rfl (by exact zp E5 rfl) Try.underlying40 rfl (by kernel_rfl)) rfl ?_
   exact ⟨_, by first | rfl | (simp [errW_none, errW_some] <;> rfl) | (simp [*, errW_none, errW_some] <;> rfl), by first | exact Kd.R_nil _ _ _ _ _ | exact Kd.N_nil _ _ _ _ _ | exact Kd.V_nil _ _ _ _ _ | exact Kd.Q_nil _ _ _ _ _ | exact Kd.S_nil _ _ _ _ _, by exact zbo HB E0x⟩
 subst c12
 rw [if_pos rfl] at H
 obtain ⟨L0, L1⟩ : ∃ j_ : Int, (wrap64 (a5_2 * a5_3)) = j_ := ⟨_, rfl⟩
 replace H : (if 0 ≤ (L0) then (if (L0 : Int).toNat ≤ 8796093022208 then (warp_Draw.l0 k a4 a5_1 a0_0 a0_1 l0_2 a1_0 a1_1 a2_0 a2_1 a2_2 a2_3 a3_0 a3_1 a3_2 l3_3 a5_0 a5_1 a5_2 a5_3 a5_2 a5_3 (([] : List (S48)))) else (none)) else (none)) = some (r1, r2, r3, r4) := by first | (rw [L1] at H; exact H) | (simp only [L1] at H ⊢; exact H)
 (try rw [L1] at A7)
 (try rw [L1] at A9)
 (try rw [L1] at A11)
 have E7K : (IntKind.i64.wrap (a5_2 * a5_3)) = L0 := (i64_w _).trans L1
 by_cases c14 : 0 ≤ (L0)
 rotate_left
 ·rw [if_neg c14] at H
  exact absurd H (by simp)
 rw [if_pos c14] at H
 have E1a := eq_true c14
 have E1b : decide (0 ≤ (L0)) = true := decide_eq_true c14
 clear c14
 by_cases c15 : (L0 : Int).toNat ≤ 8796093022208
 rotate_left
 ·rw [if_neg c15] at H
  exact absurd H (by simp)
 rw [if_pos c15] at H
 have E1c := eq_true c15
 have E1d : decide ((L0 : Int).toNat ≤ 8796093022208) = true := decide_eq_true c15
 clear c15
 obtain ⟨y353, hy353⟩ : ∃ y_ : List (S48), y_ = (([] : List (S48))) := ⟨_, rfl⟩
 replace H : (warp_Draw.l0 k a4 a5_1 a0_0 a0_1 l0_2 a1_0 a1_1 a2_0 a2_1 a2_2 a2_3 a3_0 a3_1 a3_2 l3_3 a5_0 a5_1 a5_2 a5_3 a5_2 a5_3 y353) = some (r1, r2, r3, r4) := by first | (rw [hy353]; with_reducible exact H) | (have H2_ := (Option.bind_some _ _).symm.trans H; rw [hy353]; with_reducible exact H2_) | (have H2_ := (Option.bind_some _ _).symm.trans H; with_reducible exact H2_) | with_reducible exact H | (rw [hy353]; exact H) | exact H
 have Ny353 := Aside0.mk hy353
 clear hy353
 have H' := Aside0.mk H
 clear H
 go_enter Try.func19, Try.ntmps19
 try go_wp2_with (first | ((with_reducible refine gate_dst (N := 6) rfl ?_); refine box_event ?hg (N := 6) ?hd (cs := #[.int .i64 a0_0, .int .i64 a0_1, .slice A0_2 l0_2.length c0_2]) (t := 40) ?hr ?_; (case hd => rfl); (case hg => rfl); (case hr => first | (go_simp; done) | (go_simp; rfl)); intro V7 hg w16 hbox hb; have E2l := zg HB hg; have E2m := zg HB hg; have n0_ := Aside0.mk (hbox); replace HB := zb HB hb; have E0 := n0_; clear n0_; clear hb hbox hg) | ((with_reducible refine gate_dst (N := 7) rfl ?_); refine box_event ?hg (N := 7) ?hd (cs := #[.int .i64 a1_0, .int .i64 a1_1]) (t := 28) ?hr ?_; (case hd => rfl); (case hg => rfl); (case hr => first | (go_simp; done) | (go_simp; rfl)); intro V8 hg w17 hbox hb; have E2n := zg HB hg; have E2o := zg HB hg; have E0p := zn E0 hg; have E0q := zn' E0 hg; have n0_ := Aside0.mk (hbox); replace E0 := zk E0 hb; replace HB := zb HB hb; have E1 := n0_; clear n0_; clear hb hbox hg) | ((with_reducible refine gate_dst (N := 8) rfl ?_); refine box_event ?hg (N := 8) ?hd (cs := #[.int .i64 a2_0, .int .i64 a2_1, .int .i64 a2_2, .int .i64 a2_3]) (t := 34) ?hr ?_; (case hd => rfl); (case hg => rfl); (case hr => first | (go_simp; done) | (go_simp; rfl)); intro V9 hg w18 hbox hb; have E2p := zg HB hg; have E2q := zg HB hg; have E0r := zn E0 hg; have E0s := zn' E0 hg; have E0E := zn E1 hg; have E0F := zn' E1 hg; have n0_ := Aside0.mk (hbox); replace E0 := zk E0 hb; replace E1 := zk E1 hb; replace HB := zb HB hb; have E2 := n0_; clear n0_; clear hb hbox hg) | ((with_reducible refine gate_dst (N := 9) rfl ?_); refine box_event ?hg (N := 9) ?hd (cs := #[.int .i64 a3_0, .int .i64 a3_1, .int .i64 a3_2, .slice A3_3 l3_3.length c3_3]) (t := 24) ?hr ?_; (case hd => rfl); (case hg => rfl); (case hr => first | (go_simp; done) | (go_simp; rfl)); intro Y2 hg w19 hbox hb; have E2r := zg HB hg; have E2s := zg HB hg; have Q6 := zn E0 hg; have Q7 := zn' E0 hg; have E0t := zn E1 hg; have E0u := zn' E1 hg; have E0v := zn E2 hg; have E0w := zn' E2 hg; have n0_ := Aside0.mk (hbox); replace E0 := zk E0 hb; replace E1 := zk E1 hb; replace E2 := zk E2 hb; replace HB := zb HB hb; have E4 := n0_; clear n0_; clear hb hbox hg) | ((with_reducible refine gate_dst (N := 11) rfl ?_); refine box_event ?hg (N := 11) ?hd (cs := #[.int .i64 a5_0, .int .i64 a5_1, .int .i64 a5_2, .int .i64 a5_3]) (t := 34) ?hr ?_; (case hd => rfl); (case hg => rfl); (case hr => first | (go_simp; done) | (go_simp; rfl)); intro V2 hg w20 hbox hb; have E2t := zg HB hg; have E2u := zg HB hg; have L4 := zn E0 hg; have L5 := zn' E0 hg; have Q8 := zn E1 hg; have Q9 := zn' E1 hg; have E0a := zn E2 hg; have E0b := zn' E2 hg; have E0c := zn E4 hg; have E0d := zn' E4 hg; have n0_ := Aside0.mk (hbox); replace E0 := zk E0 hb; replace E1 := zk E1 hb; replace E2 := zk E2 hb; replace E4 := zk E4 hb; replace HB := zb HB hb; have E3 := n0_; clear n0_; clear hb hbox hg) | ((with_reducible refine gate_dst (N := 12) rfl ?_); refine box_event ?hg (N := 12) ?hd (cs := #[.int .i64 0, .int .i64 0, .slice none 0 0]) (t := 40) ?hr ?_; (case hd => rfl); (case hg => rfl); (case hr => first | (go_simp; done) | (go_simp; rfl)); intro V6 hg w21 hbox hb; have E2v := zg HB hg; have E0x := zg HB hg; have E0e := zn E0 hg; have E0f := zn' E0 hg; have E0g := zn E1 hg; have E0h := zn' E1 hg; have E0i := zn E2 hg; have E0j := zn' E2 hg; have L6 := zn E4 hg; have L7 := zn' E4 hg; have L8 := zn E3 hg; have L9 := zn' E3 hg; have n0_ := Aside0.mk (hbox); replace E0 := zk E0 hb; replace E1 := zk E1 hb; replace E2 := zk E2 hb; replace E4 := zk E4 hb; replace E3 := zk E3 hb; replace HB := zb HB hb; have E5 := n0_; clear n0_; clear hb hbox hg; have E7L := E0p.out; have E7M := E0q.out; have E7N := E0r.out; have E7O := E0s.out; have E7P := Q6.out; have E7Q := Q7.out; have E7R := L4.out; have E7S := L5.out; have E7T := E0e.out; have E7U := E0f.out; obtain ⟨E1e, E1f, E1g, E1h, E1i, E1j⟩ := zq3 E0) | ((with_reducible refine gate_callee (f := 22) rfl ?_); refine goesL_ (some 32) rfl rfl Try.func22 (by kernel_rfl) rfl #[.agg #[.int .i64 a0_0, .int .i64 a0_1, .slice A0_2 l0_2.length c0_2]] rfl (by (try simp only [List.map_toArray, List.map_cons, List.map_nil]); first | done | rfl | (simp only [List.length_drop, List.length_take]; rfl)) ?_; (with_reducible refine (raster_Check.calls k a0_0 a0_1 _ _ l0_2 t345 _ ?side1 ?side2 A7.out).mono ?_); (case side1 => repeat (first | exact (Kd.C_below E0n.out HB.out) | (with_reducible refine Kd.C_alloc ?_ _) | (with_reducible refine Kd.C_drewN ?_ _) | (with_reducible refine Kd.C_drew ?_))); (case side2 => exact E0o.out); rintro e w28 ⟨rfl, hb⟩; refine ⟨_, rfl, ?_⟩; replace E0 := zk E0 hb; replace E1 := zk E1 hb; replace E2 := zk E2 hb; replace E4 := zk E4 hb; replace E3 := zk E3 hb; replace E5 := zk E5 hb; replace HB := zb HB hb; (try clear hb); have E7V := E0u.out; have E7W := E0t.out; have E7X := E0w.out; have E7Y := E0v.out; have E7Z := E0c.out; have E8a := E0d.out; have E8b := L6.out; have E8c := L7.out; obtain ⟨E1k, E1l, E1m, E1n, E1o, E1p, E1q, E1r⟩ := zq4 E4; have E8d := Q9.out; have E8e := Q8.out; have E8f := E0b.out; have E8g := E0a.out; have E8h := L8.out; have E8i := L9.out; obtain ⟨E1s, E1t, E1u, E1v, E1w, E1x, E1y, E1z⟩ := zq4 E3; have E8j := E0F.out; have E8k := E0E.out; have E8l := E0i.out; have E8m := E0j.out; obtain ⟨E1A, E1B, E1C, E1D, E1E, E1F, E1G, E1H⟩ := zq4 E2) | ((with_reducible refine gate_callee (f := 17) rfl ?_); refine goesL_ (some 42) rfl rfl Try.func17 (by kernel_rfl) rfl #[.agg #[.int .i64 a3_0, .int .i64 a3_1, .int .i64 a3_2, .slice A3_3 l3_3.length c3_3], .int .i64 a4, .agg #[.int .i64 a5_0, .int .i64 a5_1, .int .i64 a5_2, .int .i64 a5_3], .agg #[.int .i64 a2_0, .int .i64 a2_1, .int .i64 a2_2, .int .i64 a2_3]] rfl (by (try simp only [List.map_toArray, List.map_cons, List.map_nil]); first | done | rfl | (simp only [List.length_drop, List.length_take]; rfl)) ?_; (with_reducible refine (warp_Needs.calls k a3_0 a3_1 a3_2 _ _ l3_3 a4 a5_0 a5_1 a5_2 a5_3 a2_0 a2_1 a2_2 a2_3 t346 t347 t348 t349 t350 _ ?side1 ?side2 A9.out).mono ?_); (case side1 => repeat (first | exact (Kd.C_below E0Y.out HB.out) | (with_reducible refine Kd.C_alloc ?_ _) | (with_reducible refine Kd.C_drewN ?_ _) | (with_reducible refine Kd.C_drew ?_))); (case side2 => exact E0Z.out); rintro e w41 ⟨rfl, hb⟩; refine ⟨_, rfl, ?_⟩; replace E0 := zk E0 hb; replace E1 := zk E1 hb; replace E2 := zk E2 hb; replace E4 := zk E4 hb; replace E3 := zk E3 hb; replace E5 := zk E5 hb; replace HB := zb HB hb; (try clear hb)) | ((with_reducible refine gate_dst (N := 15) rfl ?_); refine box_event ?hg (N := 15) ?hd (cs := #[.int .i64 0, .int .i64 0, .int .i64 0, .int .i64 0]) (t := 34) ?hr ?_; (case hd => rfl); (case hg => rfl); (case hr => first | (go_simp; done) | (go_simp; rfl)); intro Y0 hg w42 hbox hb; have E2K := zg HB hg; have E0y := zg HB hg; have E0z := zn E0 hg; have E0T := zn' E0 hg; have E0A := zn E1 hg; have E0U := zn' E1 hg; have E0B := zn E2 hg; have E0V := zn' E2 hg; have E0k := zn E4 hg; have E0G := zn' E4 hg; have Q0 := zn E3 hg; have E0C := zn' E3 hg; have Y6 := zn E5 hg; have E0H := zn' E5 hg; have n0_ := Aside0.mk (hbox); replace E0 := zk E0 hb; replace E1 := zk E1 hb; replace E2 := zk E2 hb; replace E4 := zk E4 hb; replace E3 := zk E3 hb; replace E5 := zk E5 hb; replace HB := zb HB hb; have E6 := n0_; clear n0_; clear hb hbox hg; have E8n := E0T.out; have E8o := E0z.out; have E8p := E0U.out; have E8q := E0A.out; have E8r := E0V.out; have E8s := E0B.out; have E8t := E0G.out; have E8u := E0k.out; have E8v := E0C.out; have E8w := Q0.out; have E8x := E0H.out; have E8y := Y6.out; obtain ⟨E1I, E1J, E1K, E1L, E1M, E1N, E1O, E1P⟩ := zq4 E6; obtain ⟨E1Q, E1R, E1S, E1T, E1U, E1V⟩ := zq3 E0; have E8z := E0g.out; have E8A := E0h.out; obtain ⟨E1W, E1X, E1Y, E1Z⟩ := zq2 E1) | ((with_reducible refine gate_callee (f := 47) rfl ?_); refine goesL_ (some 52) rfl rfl Try.func47 (by kernel_rfl) rfl #[.agg #[.int .i64 a0_0, .int .i64 a0_1, .slice A0_2 l0_2.length c0_2], .agg #[.int .i64 a1_0, .int .i64 a1_1], .agg #[.int .i64 t346, .int .i64 t347, .int .i64 t348, .int .i64 t349]] rfl (by (try simp only [List.map_toArray, List.map_cons, List.map_nil]); first | done | rfl | (simp only [List.length_drop, List.length_take]; rfl)) ?_; (with_reducible refine (warp_covers.calls a0_0 a0_1 _ _ l0_2 a1_0 a1_1 t346 t347 t348 t349 true _ ?side1 ?side2 A11.out).mono ?_); (case side1 => exact Kd.C_below E0n.out (by exact zbo HB E0y)); (case side2 => exact E0o.out); rintro e w53 ⟨rfl, hb⟩; refine ⟨_, rfl, ?_⟩; have n0_ := Aside0.mk (blk_below (g := Y0) (o := .cells #[.int .i64 t346, .int .i64 t347, .int .i64 t348, .int .i64 t349] 34 (0, 0)) (by exact zp E6 rfl) hb); have n1_ := Aside0.mk (below_step (by exact zbo HB E0y) hb); replace E0 := zfk E0 E0z hb; replace E1 := zfk E1 E0A hb; replace E2 := zfk E2 E0B hb; replace E4 := zfk E4 E0k hb; replace E3 := zfk E3 Q0 hb; replace E5 := zfk E5 Y6 hb; clear E6; clear HB; have E6 := n0_; have HB := n1_; clear n0_ n1_; (try clear hb)))
 replace E0 := zkd E0
 replace E1 := zkd E1
 replace E2 := zkd E2
 replace E4 := zkd E4
 replace E3 := zkd E3
 replace E5 := zkd E5
 replace E6 := zkd E6
 replace HB := zbd HB
 refine start_ (n := 13) (S := fun w' => w'.cell? ⟨V2, 0, none⟩ = some (.int .i64 a5_0) ∧ w'.cell? ⟨V2, 1, none⟩ = some (.int .i64 a5_1) ∧ w'.cell? ⟨V2, 2, none⟩ = some (.int .i64 a5_2) ∧ w'.cell? ⟨V2, 3, none⟩ = some (.int .i64 a5_3)) (ds := []) (bs 13 0) (by kernel_rfl) rfl rfl ⟨(blk_cell E3.out 0).trans rfl, (blk_cell E3.out 1).trans rfl, (blk_cell E3.out 2).trans rfl, (blk_cell E3.out 3).trans rfl⟩ (fun hHeld => ?_); refine with_tabW warp_Draw.tab10 warp_Draw.bits10 (fun HT_ HW_ => ?_)
 generalize w53.drew = w54 at E0 E1 E2 E4 E3 E5 E6 HB hHeld ⊢
 refine pure_ (i := 0) (N := some 56) (v := ?_) (a' := ?_) (bs 13 1) rfl rfl (any_of HT_.out (by kernel_rfl)) (fun _ _ _ h => h) (Or.inl ⟨by rfl, ?_⟩) ?_ ?_
 rotate_left
 ·intro w'
  go_simp
  with_reducible rfl
 rotate_left
 ·simp only [Act.put, sA, sB, sC, i64_w, i32_w]
  rfl
 refine pure_ (i := 2) (N := some 58) (v := ?_) (a' := ?_) (bs 13 5) rfl rfl (any_of HT_.out (by kernel_rfl)) (fun _ _ _ h => h) (Or.inl ⟨by rfl, ?_⟩) ?_ ?_
 rotate_left
 ·intro w'
  go_simp
  with_reducible rfl
 rotate_left
 ·simp only [Act.put, sA, sB, sC, i64_w, i32_w]
  rfl
 refine pure_ (i := 4) (N := some 60) (v := ?_) (a' := ?_) (bs 13 21) rfl rfl (any_of HT_.out (by kernel_rfl)) (fun _ _ _ h => h) (Or.inl ⟨by rfl, ?_⟩) ?_ ?_
 rotate_left
 ·intro w'
  go_simp
  with_reducible rfl
 rotate_left
 ·simp only [Act.put, sA, sB, sC, i64_w, i32_w]
  rfl
 refine pure_ (i := 6) (N := some 62) (v := ?_) (a' := ?_) (bs 13 85) rfl rfl (any_of HT_.out (by kernel_rfl)) (fun _ _ _ h => h) (Or.inl ⟨by rfl, ?_⟩) ?_ ?_
 rotate_left
 ·intro w'
  go_simp
  with_reducible rfl
 rotate_left
 ·simp only [Act.put, sA, sB, sC, i64_w, i32_w]
  rfl
 refine take_ (i := 1) (N := some 57) (v := ?_) (a' := ?_) (bs 13 87) rfl rfl (take_ofW HT_.out HW_.out (by kernel_rfl)) (fun _ _ _ h => h) (Or.inl ⟨by rfl, ?_⟩) hHeld ?_ ?_
 rotate_left
 ·rintro w' ⟨s0, s1, s2, s3⟩
  go_simp
  with_reducible rfl
 rotate_left
 ·simp only [Act.put, sA, sB, sC, i64_w, i32_w]
  rfl
 refine take_ (i := 3) (N := some 59) (v := ?_) (a' := ?_) (bs 13 95) rfl rfl (take_ofW HT_.out HW_.out (by kernel_rfl)) (fun _ _ _ h => h) (Or.inl ⟨by rfl, ?_⟩) hHeld ?_ ?_
 rotate_left
 ·rintro w' ⟨s0, s1, s2, s3⟩
  go_simp
  with_reducible rfl
 rotate_left
 ·simp only [Act.put, sA, sB, sC, i64_w, i32_w]
  rfl
 refine take_ (i := 5) (N := some 61) (v := ?_) (a' := ?_) (bs 13 127) rfl rfl (take_ofW HT_.out HW_.out (by kernel_rfl)) (fun _ _ _ h => h) (Or.inl ⟨by rfl, ?_⟩) hHeld ?_ ?_
 rotate_left
 ·rintro w' ⟨s0, s1, s2, s3⟩
  go_simp
  with_reducible rfl
 rotate_left
 ·simp only [Act.put, sA, sB, sC, i64_w, i32_w]
  rfl
 refine take_ (i := 7) (N := some 63) (v := ?_) (a' := ?_) (bs 13 255) rfl rfl (take_ofW HT_.out HW_.out (by kernel_rfl)) (fun _ _ _ h => h) (Or.inl ⟨by rfl, ?_⟩) hHeld ?_ ?_
 rotate_left
 ·rintro w' ⟨s0, s1, s2, s3⟩
  go_simp
  with_reducible rfl
 rotate_left
 ·simp only [Act.put, sA, sB, sC, i64_w, i32_w]
  rfl
 refine pure_ (i := 8) (N := some 64) (v := ?_) (a' := ?_) (bs 13 511) rfl rfl (any_of HT_.out (by kernel_rfl)) (fun _ _ _ h => h) (Or.inl ⟨by rfl, ?_⟩) ?_ ?_
 rotate_left
 ·intro w'
  go_simp
  with_reducible rfl
 rotate_left
 ·simp only [Act.put, sA, sB, sC, i64_w, i32_w]
  rfl
 refine join_ (σ := Value × Nat) 1 (bs 13 4095) (fun s_ => [(65, s_.1), (18, .pointer (some ⟨s_.2, 0, none⟩)), (66, .agg #[.int .i64 a5_2, .int .i64 a5_3, s_.1])]) (fun s_ w' => (w'.cell? ⟨V2, 0, none⟩ = some (.int .i64 a5_0) ∧ w'.cell? ⟨V2, 1, none⟩ = some (.int .i64 a5_1) ∧ w'.cell? ⟨V2, 2, none⟩ = some (.int .i64 a5_2) ∧ w'.cell? ⟨V2, 3, none⟩ = some (.int .i64 a5_3)) ∧ (Kd.R k48 48 w' w.heap.size (fun _ => True) s_.1 y353) ∧ (w'.heap[V7]? = some (.cells #[.int .i64 a0_0, .int .i64 a0_1, .slice A0_2 l0_2.length c0_2] 40 (0, 0))) ∧ (w'.heap[V8]? = some (.cells #[.int .i64 a1_0, .int .i64 a1_1] 28 (0, 0))) ∧ (w'.heap[V9]? = some (.cells #[.int .i64 a2_0, .int .i64 a2_1, .int .i64 a2_2, .int .i64 a2_3] 34 (0, 0))) ∧ (w'.heap[Y2]? = some (.cells #[.int .i64 a3_0, .int .i64 a3_1, .int .i64 a3_2, .slice A3_3 l3_3.length c3_3] 24 (0, 0))) ∧ (w'.heap[V2]? = some (.cells #[.int .i64 a5_0, .int .i64 a5_1, .int .i64 a5_2, .int .i64 a5_3] 34 (0, 0))) ∧ (w'.heap[V6]? = some (.cells #[.int .i64 0, .int .i64 0, .slice none 0 0] 40 (0, 0))) ∧ (w'.heap[Y0]? = some (.cells #[.int .i64 t346, .int .i64 t347, .int .i64 t348, .int .i64 t349] 34 (0, 0))) ∧ (w'.heap[s_.2]? = some (.cells #[.int .i64 0, .int .i64 0, .slice none 0 0] 40 (0, 0))) ∧ (w.heap.size ≤ s_.2) ∧ (w.heap.size ≤ s_.2) ∧ (V7 ≠ s_.2) ∧ (s_.2 ≠ V7) ∧ (V8 ≠ s_.2) ∧ (s_.2 ≠ V8) ∧ (V9 ≠ s_.2) ∧ (s_.2 ≠ V9) ∧ (Y2 ≠ s_.2) ∧ (s_.2 ≠ Y2) ∧ (V2 ≠ s_.2) ∧ (s_.2 ≠ V2) ∧ (V6 ≠ s_.2) ∧ (s_.2 ≠ V6) ∧ (Y0 ≠ s_.2) ∧ (s_.2 ≠ Y0) ∧ (Below w.heap.size w w')) ?_ ?_
 rotate_left
 ·intro hCont
  refine two_ (i := 9) (j := 11) (Ni := some 65) (Nj := some 18) (bs 13 1023) (bs 13 2559) rfl rfl rfl rfl (two_of HT_.out (by kernel_rfl)) (by decide) (by decide) (fun K hK => ?_) (fun K hK => ?_)
  ·skip
   refine Kd.R_make0_step k48 _ 48 (by rfl) (N := 65) rfl 38 _ _ rfl L0 rfl rfl Try.underlying38 (.agg #[(.int .i64 0), (.int .i64 0), (.int .i64 0), (.int .i64 0)]) 32 info48 rfl (by decide) (by omega) z48 (ok := fun _ => True) (okp := fun _ => True) (k48_mkM _ _ _ z48 ) (fun _ hk => hk) trivial (of_decide_eq_true (by first | (with_reducible assumption) | assumption)) (Nat.le_trans (Nat.mul_le_mul_right _ (of_decide_eq_true (by first | (with_reducible assumption) | assumption) : L0.toNat ≤ 8796093022208)) (by omega)) (Below.refl _ _) (Nat.le_refl _) ?_
   intro v354 w55 ho56 hb hg_ hnew_
   clear hg_ hnew_
   (first | rw [← Ny353.out] at ho56 | (simp only [Int.reduceToNat] at ho56; rw [← Ny353.out] at ho56))
   have HO355 := zl HB ho56
   replace E0 := zk E0 hb
   replace E1 := zk E1 hb
   replace E2 := zk E2 hb
   replace E4 := zk E4 hb
   replace E3 := zk E3 hb
   replace E5 := zk E5 hb
   replace E6 := zk E6 hb
   replace HB := zb HB hb
   clear hb ho56
   obtain ⟨Ao57, co57, eo57⟩ := Kd.R_slice HO355.out
   (first | subst eo57 | (injection eo57 with f1_ f2_ f3_; have f4_ := f1_.symm; have f5_ := f3_.symm; clear f1_ f2_ f3_; subst f4_; subst f5_))
   refine hK.out _ _ ⟨(blk_cell E3.out 0).trans rfl, (blk_cell E3.out 1).trans rfl, (blk_cell E3.out 2).trans rfl, (blk_cell E3.out 3).trans rfl⟩ (fun hHeld => ?_)
   clear hK K
   refine norm_ (a' := ?_) ?_ ?_
   rotate_left
   ·show Act.put _ (some 65) _ = _
    simp only [Act.put, sA, sB, sC, i64_w, i32_w]
    rfl
   refine pure_ (i := 10) (N := some 66) (v := ?_) (a' := ?_) (bs 13 2047) rfl rfl (any_of HT_.out (by kernel_rfl)) (fun _ _ _ h => h) (Or.inl ⟨by rfl, ?_⟩) ?_ ?_
   rotate_left
   ·intro w'
    go_simp
    with_reducible rfl
   rotate_left
   ·simp only [Act.put, sA, sB, sC, i64_w, i32_w]
    rfl
   refine one_ (i := 11) (N := some 18) (bs 13 4095) rfl rfl (one_of HT_.out (by kernel_rfl)) (by decide) (fun K hK => ?_)
   refine box_step ?hg (N := 18) ?hd (cs := #[.int .i64 0, .int .i64 0, .slice none 0 0]) (t := 40) ?hr ?_; (case hd => rfl); (case hg => rfl); (case hr => first | (go_simp; done) | (go_simp; rfl))
   intro E9 hg w58 hbox hb
   have E2a := zg HB hg
   have E0D := zg HB hg
   have Y7 := zn E0 hg
   have Q1 := zn' E0 hg
   have Y8 := zn E1 hg
   have Q2 := zn' E1 hg
   have Y9 := zn E2 hg
   have Q3 := zn' E2 hg
   have Y3 := zn E4 hg
   have L3 := zn' E4 hg
   have V1 := zn E3 hg
   have L2 := zn' E3 hg
   have Z0 := zn E5 hg
   have Q4 := zn' E5 hg
   have Z1 := zn E6 hg
   have Q5 := zn' E6 hg
   have n0_ := Aside0.mk (hbox)
   replace HO355 := zr HO355 hb
   replace E0 := zk E0 hb
   replace E1 := zk E1 hb
   replace E2 := zk E2 hb
   replace E4 := zk E4 hb
   replace E3 := zk E3 hb
   replace E5 := zk E5 hb
   replace E6 := zk E6 hb
   replace HB := zb HB hb
   have E7 := n0_
   clear n0_
   clear hb hbox hg
   refine hK.out _ _ ⟨(blk_cell E3.out 0).trans rfl, (blk_cell E3.out 1).trans rfl, (blk_cell E3.out 2).trans rfl, (blk_cell E3.out 3).trans rfl⟩ (fun hHeld => ?_)
   clear hK K
   refine norm_ (a' := ?_) ?_ ?_
   rotate_left
   ·show Act.put _ (some 18) _ = _
    simp only [Act.put, sA, sB, sC, i64_w, i32_w]
    rfl
   exact norm_ (by simp only [putAll, Act.put, sA, sB, sC]) (hCont (.slice Ao57 y353.length co57, E9) _ ⟨hHeld, (by exact zr0 HO355), (by exact zk0 E0), (by exact zk0 E1), (by exact zk0 E2), (by exact zk0 E4), (by exact zk0 E3), (by exact zk0 E5), (by exact zk0 E6), (by exact zk0 E7), E2a.out, E0D.out, Y7.out, Q1.out, Y8.out, Q2.out, Y9.out, Q3.out, Y3.out, L3.out, V1.out, L2.out, Z0.out, Q4.out, Z1.out, Q5.out, (by exact zb0 HB)⟩)
  ·skip
   refine box_step ?hg (N := 18) ?hd (cs := #[.int .i64 0, .int .i64 0, .slice none 0 0]) (t := 40) ?hr ?_; (case hd => rfl); (case hg => rfl); (case hr => first | (go_simp; done) | (go_simp; rfl))
   intro E9 hg w55 hbox hb
   have E2a := zg HB hg
   have E0D := zg HB hg
   have Y7 := zn E0 hg
   have Q1 := zn' E0 hg
   have Y8 := zn E1 hg
   have Q2 := zn' E1 hg
   have Y9 := zn E2 hg
   have Q3 := zn' E2 hg
   have Y3 := zn E4 hg
   have L3 := zn' E4 hg
   have V1 := zn E3 hg
   have L2 := zn' E3 hg
   have Z0 := zn E5 hg
   have Q4 := zn' E5 hg
   have Z1 := zn E6 hg
   have Q5 := zn' E6 hg
   have n0_ := Aside0.mk (hbox)
   replace E0 := zk E0 hb
   replace E1 := zk E1 hb
   replace E2 := zk E2 hb
   replace E4 := zk E4 hb
   replace E3 := zk E3 hb
   replace E5 := zk E5 hb
   replace E6 := zk E6 hb
   replace HB := zb HB hb
   have E7 := n0_
   clear n0_
   clear hb hbox hg
   refine hK.out _ _ ⟨(blk_cell E3.out 0).trans rfl, (blk_cell E3.out 1).trans rfl, (blk_cell E3.out 2).trans rfl, (blk_cell E3.out 3).trans rfl⟩ (fun hHeld => ?_)
   clear hK K
   refine norm_ (a' := ?_) ?_ ?_
   rotate_left
   ·show Act.put _ (some 18) _ = _
    simp only [Act.put, sA, sB, sC, i64_w, i32_w]
    rfl
   refine one_ (i := 9) (N := some 65) (bs 13 3071) rfl rfl (one_of HT_.out (by kernel_rfl)) (by decide) (fun K hK => ?_)
   refine Kd.R_make0_step k48 _ 48 (by rfl) (N := 65) rfl 38 _ _ rfl L0 rfl rfl Try.underlying38 (.agg #[(.int .i64 0), (.int .i64 0), (.int .i64 0), (.int .i64 0)]) 32 info48 rfl (by decide) (by omega) z48 (ok := fun _ => True) (okp := fun _ => True) (k48_mkM _ _ _ z48 ) (fun _ hk => hk) trivial (of_decide_eq_true (by first | (with_reducible assumption) | assumption)) (Nat.le_trans (Nat.mul_le_mul_right _ (of_decide_eq_true (by first | (with_reducible assumption) | assumption) : L0.toNat ≤ 8796093022208)) (by omega)) (Below.refl _ _) (Nat.le_refl _) ?_
   intro v354 w56 ho57 hb hg_ hnew_
   clear hg_ hnew_
   (first | rw [← Ny353.out] at ho57 | (simp only [Int.reduceToNat] at ho57; rw [← Ny353.out] at ho57))
   have HO355 := zl HB ho57
   replace E0 := zk E0 hb
   replace E1 := zk E1 hb
   replace E2 := zk E2 hb
   replace E4 := zk E4 hb
   replace E3 := zk E3 hb
   replace E5 := zk E5 hb
   replace E6 := zk E6 hb
   replace E7 := zk E7 hb
   replace HB := zb HB hb
   clear hb ho57
   obtain ⟨Ao58, co58, eo58⟩ := Kd.R_slice HO355.out
   (first | subst eo58 | (injection eo58 with f1_ f2_ f3_; have f4_ := f1_.symm; have f5_ := f3_.symm; clear f1_ f2_ f3_; subst f4_; subst f5_))
   refine hK.out _ _ ⟨(blk_cell E3.out 0).trans rfl, (blk_cell E3.out 1).trans rfl, (blk_cell E3.out 2).trans rfl, (blk_cell E3.out 3).trans rfl⟩ (fun hHeld => ?_)
   clear hK K
   refine norm_ (a' := ?_) ?_ ?_
   rotate_left
   ·show Act.put _ (some 65) _ = _
    simp only [Act.put, sA, sB, sC, i64_w, i32_w]
    rfl
   refine pure_ (i := 10) (N := some 66) (v := ?_) (a' := ?_) (bs 13 4095) rfl rfl (any_of HT_.out (by kernel_rfl)) (fun _ _ _ h => h) (Or.inl ⟨by rfl, ?_⟩) ?_ ?_
   rotate_left
   ·intro w'
    go_simp
    with_reducible rfl
   rotate_left
   ·simp only [Act.put, sA, sB, sC, i64_w, i32_w]
    rfl
   exact norm_ (by simp only [putAll, Act.put, sA, sB, sC]) (hCont (.slice Ao58 y353.length co58, E9) _ ⟨hHeld, (by exact zr0 HO355), (by exact zk0 E0), (by exact zk0 E1), (by exact zk0 E2), (by exact zk0 E4), (by exact zk0 E3), (by exact zk0 E5), (by exact zk0 E6), (by exact zk0 E7), E2a.out, E0D.out, Y7.out, Q1.out, Y8.out, Q2.out, Y9.out, Q3.out, Y3.out, L3.out, V1.out, L2.out, Z0.out, Q4.out, Z1.out, Q5.out, (by exact zb0 HB)⟩)
 rintro ⟨v354, E9⟩ w59 ⟨hS_, h0_, h1_, h2_, h3_, h4_, h5_, h6_, h7_, h8_, h9_, h10_, h11_, h12_, h13_, h14_, h15_, h16_, h17_, h18_, h19_, h20_, h21_, h22_, h23_, h24_, h25_⟩
 have n0_ : Aside0 (Kd.R k48 48 w59 w.heap.size (fun _ => True) v354 y353) := ⟨h0_⟩
 have n1_ : Aside0 (w59.heap[V7]? = some (.cells #[.int .i64 a0_0, .int .i64 a0_1, .slice A0_2 l0_2.length c0_2] 40 (0, 0))) := ⟨h1_⟩
 have n2_ : Aside0 (w59.heap[V8]? = some (.cells #[.int .i64 a1_0, .int .i64 a1_1] 28 (0, 0))) := ⟨h2_⟩
 have n3_ : Aside0 (w59.heap[V9]? = some (.cells #[.int .i64 a2_0, .int .i64 a2_1, .int .i64 a2_2, .int .i64 a2_3] 34 (0, 0))) := ⟨h3_⟩
 have n4_ : Aside0 (w59.heap[Y2]? = some (.cells #[.int .i64 a3_0, .int .i64 a3_1, .int .i64 a3_2, .slice A3_3 l3_3.length c3_3] 24 (0, 0))) := ⟨h4_⟩
 have n5_ : Aside0 (w59.heap[V2]? = some (.cells #[.int .i64 a5_0, .int .i64 a5_1, .int .i64 a5_2, .int .i64 a5_3] 34 (0, 0))) := ⟨h5_⟩
 have n6_ : Aside0 (w59.heap[V6]? = some (.cells #[.int .i64 0, .int .i64 0, .slice none 0 0] 40 (0, 0))) := ⟨h6_⟩
 have n7_ : Aside0 (w59.heap[Y0]? = some (.cells #[.int .i64 t346, .int .i64 t347, .int .i64 t348, .int .i64 t349] 34 (0, 0))) := ⟨h7_⟩
 have n8_ : Aside0 (w59.heap[E9]? = some (.cells #[.int .i64 0, .int .i64 0, .slice none 0 0] 40 (0, 0))) := ⟨h8_⟩
 have n9_ : Aside0 (w.heap.size ≤ E9) := ⟨h9_⟩
 have n10_ : Aside0 (w.heap.size ≤ E9) := ⟨h10_⟩
 have n11_ : Aside0 (V7 ≠ E9) := ⟨h11_⟩
 have n12_ : Aside0 (E9 ≠ V7) := ⟨h12_⟩
 have n13_ : Aside0 (V8 ≠ E9) := ⟨h13_⟩
 have n14_ : Aside0 (E9 ≠ V8) := ⟨h14_⟩
 have n15_ : Aside0 (V9 ≠ E9) := ⟨h15_⟩
 have n16_ : Aside0 (E9 ≠ V9) := ⟨h16_⟩
 have n17_ : Aside0 (Y2 ≠ E9) := ⟨h17_⟩
 have n18_ : Aside0 (E9 ≠ Y2) := ⟨h18_⟩
 have n19_ : Aside0 (V2 ≠ E9) := ⟨h19_⟩
 have n20_ : Aside0 (E9 ≠ V2) := ⟨h20_⟩
 have n21_ : Aside0 (V6 ≠ E9) := ⟨h21_⟩
 have n22_ : Aside0 (E9 ≠ V6) := ⟨h22_⟩
 have n23_ : Aside0 (Y0 ≠ E9) := ⟨h23_⟩
 have n24_ : Aside0 (E9 ≠ Y0) := ⟨h24_⟩
 have n25_ : Aside0 (Below w.heap.size w w59) := ⟨h25_⟩
 clear E0
 clear E1
 clear E2
 clear E4
 clear E3
 clear E5
 clear E6
 clear HB
 clear h0_ h1_ h2_ h3_ h4_ h5_ h6_ h7_ h8_ h9_ h10_ h11_ h12_ h13_ h14_ h15_ h16_ h17_ h18_ h19_ h20_ h21_ h22_ h23_ h24_ h25_
 have HO355 := n0_
 have E0 := n1_
 have E1 := n2_
 have E2 := n3_
 have E4 := n4_
 have E3 := n5_
 have E5 := n6_
 have E6 := n7_
 have E7 := n8_
 have E2a := n9_
 have E0D := n10_
 have Y7 := n11_
 have Q1 := n12_
 have Y8 := n13_
 have Q2 := n14_
 have Y9 := n15_
 have Q3 := n16_
 have Y3 := n17_
 have L3 := n18_
 have V1 := n19_
 have L2 := n20_
 have Z0 := n21_
 have Q4 := n22_
 have Z1 := n23_
 have Q5 := n24_
 have HB := n25_
 clear n0_ n1_ n2_ n3_ n4_ n5_ n6_ n7_ n8_ n9_ n10_ n11_ n12_ n13_ n14_ n15_ n16_ n17_ n18_ n19_ n20_ n21_ n22_ n23_ n24_ n25_
 have hHeld : w59.cell? ⟨V2, 0, none⟩ = some (.int .i64 a5_0) ∧ w59.cell? ⟨V2, 1, none⟩ = some (.int .i64 a5_1) ∧ w59.cell? ⟨V2, 2, none⟩ = some (.int .i64 a5_2) ∧ w59.cell? ⟨V2, 3, none⟩ = some (.int .i64 a5_3) := hS_
 obtain ⟨Ao60, co60, eo60⟩ := Kd.R_slice HO355.out
 (first | subst eo60 | (injection eo60 with f1_ f2_ f3_; have f4_ := f1_.symm; have f5_ := f3_.symm; clear f1_ f2_ f3_; subst f4_; subst f5_))
 refine norm_ (a' := ?_) ?_ ?_
 rotate_left
 ·simp only [putAll, Act.put, sA, sB, sC]
  rfl
 refine one_ (i := 12) (N := none) (bs 13 8191) rfl rfl (one_of HT_.out (by kernel_rfl)) (by decide) (fun K hK => ?_)
 have hs61 : w59.cell? ⟨E9, 0, none⟩ = some (.int .i64 0) := (blk_cell E7.out 0).trans rfl
 have hfs61 := blk_frozen E7.out 0
 have E8B := Y7.out
 have E8C := Y8.out
 have E8D := Y9.out
 have E8E := Y3.out
 have E8F := V1.out
 have E8G := Z0.out
 have E8H := Z1.out
 have E8I := Q1.out
 have E8J := Q2.out
 have E8K := Q3.out
 have E8L := L3.out
 have E8M := L2.out
 have E8N := Q4.out
 have E8O := Q5.out
 have hs62 : w59.cell? ⟨E9, 1, none⟩ = some (.int .i64 0) := (blk_cell E7.out 1).trans rfl
 have hfs62 := blk_frozen E7.out 1
 have E8P := Y7.out
 have E8Q := Y8.out
 have E8R := Y9.out
 have E8S := Y3.out
 have E8T := V1.out
 have E8U := Z0.out
 have E8V := Z1.out
 have E8W := Q1.out
 have E8X := Q2.out
 have E8Y := Q3.out
 have E8Z := L3.out
 have E9a := L2.out
 have E9b := Q4.out
 have E9c := Q5.out
 have hs63 : w59.cell? ⟨E9, 2, none⟩ = some (.slice none 0 0) := (blk_cell E7.out 2).trans rfl
 have hfs63 := blk_frozen E7.out 2
 have E9d := Y7.out
 have E9e := Y8.out
 have E9f := Y9.out
 have E9g := Y3.out
 have E9h := V1.out
 have E9i := Z0.out
 have E9j := Z1.out
 have E9k := Q1.out
 have E9l := Q2.out
 have E9m := Q3.out
 have E9n := L3.out
 have E9o := L2.out
 have E9p := Q4.out
 have E9q := Q5.out
 refine skip_ (w1 := ?_) (by rfl) rfl ?_ ?_
 rotate_left
 ·go_simp
  rfl
 refine hK.out _ _ ⟨((cell_far (p := ⟨E9, _, none⟩) V1.out _).trans (((cell_far (p := ⟨E9, _, none⟩) V1.out _).trans (((cell_far (p := ⟨E9, _, none⟩) V1.out _).trans (hHeld.1)))))), ((cell_far (p := ⟨E9, _, none⟩) V1.out _).trans (((cell_far (p := ⟨E9, _, none⟩) V1.out _).trans (((cell_far (p := ⟨E9, _, none⟩) V1.out _).trans (hHeld.2.1)))))), ((cell_far (p := ⟨E9, _, none⟩) V1.out _).trans (((cell_far (p := ⟨E9, _, none⟩) V1.out _).trans (((cell_far (p := ⟨E9, _, none⟩) V1.out _).trans (hHeld.2.2.1)))))), ((cell_far (p := ⟨E9, _, none⟩) V1.out _).trans (((cell_far (p := ⟨E9, _, none⟩) V1.out _).trans (((cell_far (p := ⟨E9, _, none⟩) V1.out _).trans (hHeld.2.2.2))))))⟩ (fun hHeld => ?_)
 clear hK K
 refine done_ (done_of HT_.out (by kernel_rfl)) ?_
 have E9r := V1.out
 have E9s := L2.out
 obtain ⟨E2b, E2c, E2d, E2e, E2f, E2g, E2h, E2i⟩ := zq4 E3
 try go_wp2
 go_loopg [19] k (fun kq v19 w' => ∃ (x19_1 : Int) (x357002_1 : List (S48)) (u357002 : Value), v19 = .int .i64 x19_1 ∧ Aside0 (warp_Draw.l0 kq a4 x19_1 a0_0 a0_1 l0_2 a1_0 a1_1 a2_0 a2_1 a2_2 a2_3 a3_0 a3_1 a3_2 l3_3 a5_0 a5_1 a5_2 a5_3 a5_2 a5_3 x357002_1 = some (r1, r2, r3, r4)) ∧ Aside0 (kq ≤ k) ∧ Aside0 (Kd.R k48 48 w' w.heap.size (fun _ => True) u357002 x357002_1) ∧ Aside0 (w'.heap[V7]? = some (.cells #[.int .i64 a0_0, .int .i64 a0_1, (.slice A0_2 l0_2.length c0_2)] 40 (0, 0))) ∧ Aside0 (w'.heap[V8]? = some (.cells #[.int .i64 a1_0, .int .i64 a1_1] 28 (0, 0))) ∧ Aside0 (w'.heap[V9]? = some (.cells #[.int .i64 a2_0, .int .i64 a2_1, .int .i64 a2_2, .int .i64 a2_3] 34 (0, 0))) ∧ Aside0 (w'.heap[Y2]? = some (.cells #[.int .i64 a3_0, .int .i64 a3_1, .int .i64 a3_2, (.slice A3_3 l3_3.length c3_3)] 24 (0, 0))) ∧ Aside0 (w'.heap[V2]? = some (.cells #[.int .i64 a5_0, .int .i64 a5_1, .int .i64 a5_2, .int .i64 a5_3] 34 (0, 0))) ∧ Aside0 (w'.heap[V6]? = some (.cells #[.int .i64 0, .int .i64 0, (.slice none 0 0)] 40 (0, 0))) ∧ Aside0 (w'.heap[Y0]? = some (.cells #[.int .i64 t346, .int .i64 t347, .int .i64 t348, .int .i64 t349] 34 (0, 0))) ∧ Aside0 (w'.heap[E9]? = some (.cells #[.int .i64 a5_2, .int .i64 a5_3, u357002] 40 (0, 0))) ∧ Aside0 (Below w.heap.size w w'))
 case atStart => exact ⟨(a5_1), (y353), (.slice Ao60 y353.length co60), (by first | rfl | (simp; done) | (simp [*]; done)), H', ⟨Nat.le_refl _⟩, ⟨by exact zro HO355 E7 (by decide)⟩, ⟨by exact zf E0 Y7⟩, ⟨by exact zf E1 Y8⟩, ⟨by exact zf E2 Y9⟩, ⟨by exact zf E4 Y3⟩, ⟨by exact zf E3 V1⟩, ⟨by exact zf E5 Z0⟩, ⟨by exact zf E6 Z1⟩, ⟨by exact zp E7 rfl⟩, ⟨by exact zbo HB E0D⟩⟩
 case round =>
  clear H'
  try clear c1
  try clear c2
  try clear p2
  try clear q2
  try clear c3
  try clear q3
  try clear c4
  try clear q4
  try clear c5
  try clear c6
  try clear p6
  try clear c8
  try clear E0P
  try clear E0Q
  try clear c10
  try clear E0R
  try clear E0S
  try clear c12
  try clear c14
  try clear E1a
  try clear E1b
  try clear c15
  try clear E1c
  try clear E1d
  try clear c17
  try clear c19
  try clear c22
  try clear c23
  try clear c24
  try clear c25
  try clear c26
  try clear c29
  try clear c30
  try clear c31
  try clear c32
  try clear c34
  try clear c35
  try clear c36
  try clear c38
  try clear c39
  try clear c43
  try clear c44
  try clear c45
  try clear c46
  try clear c47
  try clear c48
  try clear c51
  try clear c64
  try clear p64
  try clear E1e
  try clear E1f
  try clear E1g
  try clear E1k
  try clear E1l
  try clear E1m
  try clear E1n
  try clear E1s
  try clear E1t
  try clear E1u
  try clear E1v
  try clear E1A
  try clear E1B
  try clear E1C
  try clear E1D
  try clear E1I
  try clear E1J
  try clear E1K
  try clear E1L
  try clear E1Q
  try clear E1R
  try clear E1S
  try clear E1W
  try clear E1X
  try clear E2b
  try clear E2c
  try clear E2d
  try clear E2e
  try clear E1h
  try clear E1i
  try clear E1j
  try clear E1o
  try clear E1p
  try clear E1q
  try clear E1r
  try clear E1w
  try clear E1x
  try clear E1y
  try clear E1z
  try clear E1E
  try clear E1F
  try clear E1G
  try clear E1H
  try clear E1M
  try clear E1N
  try clear E1O
  try clear E1P
  try clear E1T
  try clear E1U
  try clear E1V
  try clear E1Y
  try clear E1Z
  try clear E2f
  try clear E2g
  try clear E2h
  try clear E2i
  obtain ⟨x19_1, x357002_1, u357002, rfl, HA, HK1, E8, E0, E1, E2, E4, E3, E5, E6, E7, HB⟩ := hrel
  cases gk with
  | zero => exact absurd HA.out (by simp [warp_Draw.l0])
  | succ k1 =>
   have H := HA.out
   clear HA
   simp only [warp_Draw.l0] at H
   by_cases c66 : x19_1 < (wrap64 (a5_1 + a5_3))
   rotate_left
   ·rw [if_neg c66] at H
    have E2j : decide (x19_1 < (wrap64 (a5_1 + a5_3))) = false := decide_eq_false c66
    clear c66
    as_aux_lemma =>
     simp only [Option.some.injEq, Prod.mk.injEq] at H
     obtain ⟨rfl, rfl, rfl, rfl⟩ := H
     have E9t := L5.out
     have E9u := L4.out
     have E9v := Q9.out
     have E9w := Q8.out
     have E9x := E0b.out
     have E9y := E0a.out
     have E9z := E0d.out
     have E9A := E0c.out
     have E9B := L8.out
     have E9C := L9.out
     have E9D := Q0.out
     have E9E := E0C.out
     have E9F := V1.out
     have E9G := L2.out
     obtain ⟨E9H, E9I, E9J, E9K, E9L, E9M, E9N, E9O⟩ := zq4 E3
     have E9P := Q1.out
     have E9Q := Y7.out
     have E9R := Q2.out
     have E9S := Y8.out
     have E9T := Q3.out
     have E9U := Y9.out
     have E9V := L3.out
     have E9W := Y3.out
     have E9X := Q4.out
     have E9Y := Z0.out
     have E9Z := Q5.out
     have G0a := Z1.out
     obtain ⟨G0b, G0c, G0d, G0e, G0f, G0g⟩ := zq3 E7
     have G0h := E0f.out
     have G0i := E0e.out
     have G0j := E0h.out
     have G0k := E0g.out
     have G0l := E0j.out
     have G0m := E0i.out
     have G0n := L7.out
     have G0o := L6.out
     have G0p := Y6.out
     have G0q := E0H.out
     obtain ⟨G0r, G0s, G0t, G0u, G0v, G0w⟩ := zq3 E5
     obtain ⟨Ao143, co143, eo143⟩ := Kd.R_slice E8.out
     subst eo143
     go_wp2
     refine bodyPost_ret (results_ct rfl _ _ V6 40 #[.int .i64 a5_2, .int .i64 a5_3, .slice Ao143 x357002_1.length co143] (0, 0) _ rfl (by exact zp E5 rfl) Try.underlying40 rfl (by kernel_rfl)) rfl ?_
     exact ⟨_, by first | rfl | (simp [errW_none, errW_some] <;> rfl) | (simp only [← L1]; first | rfl | (simp [errW_none, errW_some] <;> rfl)) | (simp [*, errW_none, errW_some] <;> rfl), by exact zro E8 E5 (by decide), by exact zbo HB E0x⟩
   rw [if_pos c66] at H
   have E2j : decide (x19_1 < (wrap64 (a5_1 + a5_3))) = true := decide_eq_true c66
   clear c66
   have H' := Aside0.mk H
   clear H
   obtain ⟨E2w, E2x, E2y, E2z, E2A, E2B, E2C, E2D⟩ := zq4 E3
   go_wp2
   go_loopg [20] k1 (fun kq v20 w' => ∃ (x20_2 : Int) (x357002_2 : List (S48)) (u357002 : Value), v20 = .int .i64 x20_2 ∧ Aside0 (warp_Draw.l1 kq a4 x19_1 x20_2 a0_0 a0_1 l0_2 a1_0 a1_1 a2_0 a2_1 a2_2 a2_3 a3_0 a3_1 a3_2 l3_3 a5_0 a5_1 a5_2 a5_3 a5_2 a5_3 x357002_2 = some (r1, r2, r3, r4)) ∧ Aside0 (kq ≤ k1) ∧ Aside0 (Kd.R k48 48 w' w.heap.size (fun _ => True) u357002 x357002_2) ∧ Aside0 (w'.heap[V7]? = some (.cells #[.int .i64 a0_0, .int .i64 a0_1, (.slice A0_2 l0_2.length c0_2)] 40 (0, 0))) ∧ Aside0 (w'.heap[V8]? = some (.cells #[.int .i64 a1_0, .int .i64 a1_1] 28 (0, 0))) ∧ Aside0 (w'.heap[V9]? = some (.cells #[.int .i64 a2_0, .int .i64 a2_1, .int .i64 a2_2, .int .i64 a2_3] 34 (0, 0))) ∧ Aside0 (w'.heap[Y2]? = some (.cells #[.int .i64 a3_0, .int .i64 a3_1, .int .i64 a3_2, (.slice A3_3 l3_3.length c3_3)] 24 (0, 0))) ∧ Aside0 (w'.heap[V2]? = some (.cells #[.int .i64 a5_0, .int .i64 a5_1, .int .i64 a5_2, .int .i64 a5_3] 34 (0, 0))) ∧ Aside0 (w'.heap[V6]? = some (.cells #[.int .i64 0, .int .i64 0, (.slice none 0 0)] 40 (0, 0))) ∧ Aside0 (w'.heap[Y0]? = some (.cells #[.int .i64 t346, .int .i64 t347, .int .i64 t348, .int .i64 t349] 34 (0, 0))) ∧ Aside0 (w'.heap[E9]? = some (.cells #[.int .i64 a5_2, .int .i64 a5_3, u357002] 40 (0, 0))) ∧ Aside0 (Below w.heap.size w w'))
   case atStart => exact ⟨(a5_0), (x357002_1), (u357002), (by first | rfl | (simp; done) | (simp [*]; done)), H', ⟨Nat.le_refl _⟩, ⟨by exact zr0 E8⟩, ⟨by exact zk0 E0⟩, ⟨by exact zk0 E1⟩, ⟨by exact zk0 E2⟩, ⟨by exact zk0 E4⟩, ⟨by exact zk0 E3⟩, ⟨by exact zk0 E5⟩, ⟨by exact zk0 E6⟩, ⟨by exact zk0 E7⟩, ⟨by exact zb0 HB⟩⟩
   case round =>
    clear H'
    try clear c1
    try clear c2
    try clear p2
    try clear q2
    try clear c3
    try clear q3
    try clear c4
    try clear q4
    try clear c5
    try clear c6
    try clear p6
    try clear c8
    try clear E0P
    try clear E0Q
    try clear c10
    try clear E0R
    try clear E0S
    try clear c12
    try clear c14
    try clear E1a
    try clear E1b
    try clear c15
    try clear E1c
    try clear E1d
    try clear c17
    try clear c19
    try clear c22
    try clear c23
    try clear c24
    try clear c25
    try clear c26
    try clear c29
    try clear c30
    try clear c31
    try clear c32
    try clear c34
    try clear c35
    try clear c36
    try clear c38
    try clear c39
    try clear c43
    try clear c44
    try clear c45
    try clear c46
    try clear c47
    try clear c48
    try clear c51
    try clear c64
    try clear p64
    try clear c66
    try clear E2j
    try clear E1e
    try clear E1f
    try clear E1g
    try clear E1k
    try clear E1l
    try clear E1m
    try clear E1n
    try clear E1s
    try clear E1t
    try clear E1u
    try clear E1v
    try clear E1A
    try clear E1B
    try clear E1C
    try clear E1D
    try clear E1I
    try clear E1J
    try clear E1K
    try clear E1L
    try clear E1Q
    try clear E1R
    try clear E1S
    try clear E1W
    try clear E1X
    try clear E2b
    try clear E2c
    try clear E2d
    try clear E2e
    try clear E2w
    try clear E2x
    try clear E2y
    try clear E2z
    try clear E1h
    try clear E1i
    try clear E1j
    try clear E1o
    try clear E1p
    try clear E1q
    try clear E1r
    try clear E1w
    try clear E1x
    try clear E1y
    try clear E1z
    try clear E1E
    try clear E1F
    try clear E1G
    try clear E1H
    try clear E1M
    try clear E1N
    try clear E1O
    try clear E1P
    try clear E1T
    try clear E1U
    try clear E1V
    try clear E1Y
    try clear E1Z
    try clear E2f
    try clear E2g
    try clear E2h
    try clear E2i
    try clear E2A
    try clear E2B
    try clear E2C
    try clear E2D
    try clear p2
    try clear p6
    try clear p64
    try clear q2
    try clear q3
    try clear q4
    obtain ⟨x20_2, x357002_2, u357002, rfl, HA, HK2, E8, E0, E1, E2, E4, E3, E5, E6, E7, HB⟩ := hrel
    cases gk with
    | zero => exact absurd HA.out (by simp [warp_Draw.l1])
    | succ k2 =>
     have H := HA.out
     clear HA
     simp only [warp_Draw.l1] at H
     by_cases c68 : x20_2 < (wrap64 (a5_0 + a5_2))
     rotate_left
     ·rw [if_neg c68] at H
      have E2E : decide (x20_2 < (wrap64 (a5_0 + a5_2))) = false := decide_eq_false c68
      clear c68
      as_aux_lemma =>
       have H' := Aside0.mk H
       clear H
       obtain ⟨G0x, G0y, G0z, G0A, G0B, G0C, G0D, G0E⟩ := zq4 E3
       go_wp2
       first | go_roundg k2 | ((try subst L1); go_roundg k2)
       case measure => have := HK1.out; have := HK2.out; omega
       case rel => first | (exact ⟨(wrap64 (x19_1 + 1)), (x357002_2), (u357002), (by first | rfl | (simp; done) | (simp [*]; done)), H', ⟨by have := HK1.out; have := HK2.out; omega⟩, ⟨by exact zr0 E8⟩, ⟨by exact zk0 E0⟩, ⟨by exact zk0 E1⟩, ⟨by exact zk0 E2⟩, ⟨by exact zk0 E4⟩, ⟨by exact zk0 E3⟩, ⟨by exact zk0 E5⟩, ⟨by exact zk0 E6⟩, ⟨by exact zk0 E7⟩, ⟨by exact zb0 HB⟩⟩) | (exact ⟨(wrap64 (x19_1 + 1)), (x357002_2), (u357002), (by first | rfl | (simp; done) | (simp [*]; done)), H', ⟨by have := HK1.out; have := HK2.out; omega⟩, ⟨by exact zr0 E8⟩, ⟨by exact zk0 E0⟩, ⟨by exact zk0 E1⟩, ⟨by exact zk0 E2⟩, ⟨by exact zk0 E4⟩, ⟨by exact zk0 E3⟩, ⟨by exact zk0 E5⟩, ⟨by exact zk0 E6⟩, ⟨by exact zk0 E7⟩, ⟨by exact zb0 HB⟩⟩)
     rw [if_pos c68] at H
     have E2E : decide (x20_2 < (wrap64 (a5_0 + a5_2))) = true := decide_eq_true c68
     clear c68
     replace H := Option.bind_eq_some_iff.mp H
     obtain ⟨⟨t357, t358⟩, A690, H⟩ := H
     try dsimp only at H
     have A69 := Aside0.mk A690
     clear A690
     replace H := Option.bind_eq_some_iff.mp H
     obtain ⟨⟨t360, t361⟩, A700, H⟩ := H
     try dsimp only at H
     have A70 := Aside0.mk A700
     clear A700
     replace H := Option.bind_eq_some_iff.mp H
     obtain ⟨⟨t364, t365⟩, A710, H⟩ := H
     try dsimp only at H
     have A71 := Aside0.mk A710
     clear A710
     have H' := Aside0.mk H
     clear H
     have G0F := L5.out
     have G0G := L4.out
     have G0H := Q9.out
     have G0I := Q8.out
     have G0J := E0b.out
     have G0K := E0a.out
     have G0L := E0d.out
     have G0M := E0c.out
     have G0N := L8.out
     have G0O := L9.out
     have G0P := Q0.out
     have G0Q := E0C.out
     have G0R := V1.out
     have G0S := L2.out
     obtain ⟨E2L, E2M, E2N, E2O, E2P, E2Q, E2R, E2S⟩ := zq4 E3
     have G0T := Q7.out
     have G0U := Q6.out
     have G0V := E0u.out
     have G0W := E0t.out
     have G0X := E0w.out
     have G0Y := E0v.out
     have G0Z := L6.out
     have G1a := L7.out
     have G1b := E0k.out
     have G1c := E0G.out
     have G1d := Y3.out
     have G1e := L3.out
     obtain ⟨E2T, E2U, E2V, E2W, E2X, E2Y, E2Z, E3a⟩ := zq4 E4
     go_wp2_with (first | ((with_reducible refine gate_callee (f := 29) rfl ?_); refine goesL_ (some 92) rfl rfl Try.func29 (by kernel_rfl) rfl #[.agg #[.int .i64 a3_0, .int .i64 a3_1, .int .i64 a3_2, .slice A3_3 l3_3.length c3_3], .int .i64 x20_2, .int .i64 x19_1] rfl (by (try simp only [List.map_toArray, List.map_cons, List.map_nil]); first | done | rfl | (simp only [List.length_drop, List.length_take]; rfl)) ?_; (with_reducible refine (warp_at.calls k2 a3_0 a3_1 a3_2 _ _ l3_3 x20_2 x19_1 t357 t358 _ ?side1 ?side2 A69.out).mono ?_); (case side1 => repeat (first | exact (Kd.C_below E0Y.out HB.out) | (with_reducible refine Kd.C_alloc ?_ _) | (with_reducible refine Kd.C_drewN ?_ _) | (with_reducible refine Kd.C_drew ?_))); (case side2 => exact E0Z.out); rintro e w87 ⟨rfl, hb⟩; refine ⟨_, rfl, ?_⟩; replace E8 := zr E8 hb; replace E0 := zk E0 hb; replace E1 := zk E1 hb; replace E2 := zk E2 hb; replace E4 := zk E4 hb; replace E3 := zk E3 hb; replace E5 := zk E5 hb; replace E6 := zk E6 hb; replace E7 := zk E7 hb; replace HB := zb HB hb; (try clear hb)) | ((with_reducible refine gate_dst (N := 21) rfl ?_); refine box_event ?hg (N := 21) ?hd (cs := #[.int .i64 0, .int .i64 0]) (t := 28) ?hr ?_; (case hd => rfl); (case hg => rfl); (case hr => first | (go_simp; done) | (go_simp; rfl)); intro E2F hg w88 hbox hb; have G1f := zg HB hg; have E3b := zg HB hg; have E3c := zn E0 hg; have E3u := zn' E0 hg; have E3d := zn E1 hg; have E3v := zn' E1 hg; have E3e := zn E2 hg; have E3w := zn' E2 hg; have E3f := zn E4 hg; have E3x := zn' E4 hg; have E3g := zn E3 hg; have E3y := zn' E3 hg; have E3h := zn E5 hg; have E3z := zn' E5 hg; have E3i := zn E6 hg; have E3A := zn' E6 hg; have E2G := zn E7 hg; have E3j := zn' E7 hg; have n0_ := Aside0.mk (hbox); replace E8 := zr E8 hb; replace E0 := zk E0 hb; replace E1 := zk E1 hb; replace E2 := zk E2 hb; replace E4 := zk E4 hb; replace E3 := zk E3 hb; replace E5 := zk E5 hb; replace E6 := zk E6 hb; replace E7 := zk E7 hb; replace HB := zb HB hb; have G0 := n0_; clear n0_; clear hb hbox hg; have G1g := E3u.out; have G1h := E3c.out; have G1i := E3v.out; have G1j := E3d.out; have G1k := E3w.out; have G1l := E3e.out; have G1m := E3x.out; have G1n := E3f.out; have G1o := E3y.out; have G1p := E3g.out; have G1q := E3z.out; have G1r := E3h.out; have G1s := E3A.out; have G1t := E3i.out; have G1u := E3j.out; have G1v := E2G.out; obtain ⟨E3k, E3l, E3m, E3n⟩ := zq2 G0) | ((with_reducible refine gate_callee (f := 50) rfl ?_); refine goesL_ (some 101) rfl rfl Try.func50 (by kernel_rfl) rfl #[.int .i64 a4, .int .i64 (wrap64 ((wrap64 ((wrap64 (x20_2 * 65536)) + 32768)) + t357))] rfl (by (try simp only [List.map_toArray, List.map_cons, List.map_nil]); first | done | rfl | (simp only [List.length_drop, List.length_take]; rfl)) ?_; (with_reducible refine (kernel_Taps.calls k2 a4 (wrap64 ((wrap64 ((wrap64 (x20_2 * 65536)) + 32768)) + t357)) t360 t361 _ A70.out).mono ?_); rintro e w98 ⟨v362, rfl, ho0, hb⟩; refine ⟨_, rfl, ?_⟩; have n0_ := Aside0.mk (Kd.R_below (by exact zro E8 G0 (by decide)) hb); have n1_ := Aside0.mk (Kd.R_lower ho0 (below_size (by exact zbo HB E3b))); have n2_ := Aside0.mk (blk_below (g := E2F) (o := .cells #[.int .i64 t357, .int .i64 t358] 28 (0, 0)) (by exact zp G0 rfl) hb); have n3_ := Aside0.mk (below_step (by exact zbo HB E3b) hb); replace E0 := zfk E0 E3c hb; replace E1 := zfk E1 E3d hb; replace E2 := zfk E2 E3e hb; replace E4 := zfk E4 E3f hb; replace E3 := zfk E3 E3g hb; replace E5 := zfk E5 E3h hb; replace E6 := zfk E6 E3i hb; replace E7 := zfk E7 E2G hb; clear E8; clear G0; clear HB; have E8 := n0_; have HO363 := n1_; have G0 := n2_; have HB := n3_; clear n0_ n1_ n2_ n3_; (try clear hb); (try clear ho0); obtain ⟨E3o, E3p, E3q, E3r⟩ := zq2 G0) | ((with_reducible refine gate_callee (f := 50) rfl ?_); refine goesL_ (some 112) rfl rfl Try.func50 (by kernel_rfl) rfl #[.int .i64 a4, .int .i64 (wrap64 ((wrap64 ((wrap64 (x19_1 * 65536)) + 32768)) + t358))] rfl (by (try simp only [List.map_toArray, List.map_cons, List.map_nil]); first | done | rfl | (simp only [List.length_drop, List.length_take]; rfl)) ?_; (with_reducible refine (kernel_Taps.calls k2 a4 (wrap64 ((wrap64 ((wrap64 (x19_1 * 65536)) + 32768)) + t358)) t364 t365 _ A71.out).mono ?_); rintro e w100 ⟨v366, rfl, ho0, hb⟩; refine ⟨_, rfl, ?_⟩; have n0_ := Aside0.mk (Kd.R_elder' (by exact zr0 HO363) (Kd.R_base ho0) hb); have n1_ := Aside0.mk (Kd.R_lower (Kd.R_new' ho0 (Kd.R_lt (by exact zr0 HO363))) (below_size (by exact zb0 HB))); replace E8 := zr E8 hb; replace E0 := zk E0 hb; replace E1 := zk E1 hb; replace E2 := zk E2 hb; replace E4 := zk E4 hb; replace E3 := zk E3 hb; replace E5 := zk E5 hb; replace E6 := zk E6 hb; replace E7 := zk E7 hb; replace G0 := zk G0 hb; replace HB := zb HB hb; clear HO363; have HO363 := n0_; have HO367 := n1_; clear n0_ n1_; (try clear hb); (try clear ho0)) | ((with_reducible refine gate_dst (N := 26) rfl ?_); refine box_event ?hg (N := 26) ?hd (cs := #[.int .i64 0, .int .i64 0, .int .i64 0, .int .i64 0, .int .i64 0, .int .i64 0, .int .i64 0]) (t := 72) ?hr ?_; (case hd => rfl); (case hg => rfl); (case hr => first | (go_simp; done) | (go_simp; rfl)); intro G1 hg w101 hbox hb; have G1w := zg HB hg; have E3s := zg HB hg; have G1x := zn E0 hg; have G3 := zn' E0 hg; have G1y := zn E1 hg; have G4 := zn' E1 hg; have G1z := zn E2 hg; have G5 := zn' E2 hg; have G1A := zn E4 hg; have G6 := zn' E4 hg; have G1B := zn E3 hg; have G7 := zn' E3 hg; have G1C := zn E5 hg; have G8 := zn' E5 hg; have G1D := zn E6 hg; have G9 := zn' E6 hg; have E3B := zn E7 hg; have G2 := zn' E7 hg; have G1E := zn G0 hg; have V0 := zn' G0 hg; have n0_ := Aside0.mk (hbox); replace E8 := zr E8 hb; replace HO363 := zr HO363 hb; replace HO367 := zr HO367 hb; replace E0 := zk E0 hb; replace E1 := zk E1 hb; replace E2 := zk E2 hb; replace E4 := zk E4 hb; replace E3 := zk E3 hb; replace E5 := zk E5 hb; replace E6 := zk E6 hb; replace E7 := zk E7 hb; replace G0 := zk G0 hb; replace HB := zb HB hb; have V3 := n0_; clear n0_; clear hb hbox hg; obtain ⟨Ao102, co102, eo102⟩ := Kd.R_slice HO367.out; subst eo102))
     (try simp only [Act.put, sA, sB, sC])
     go_loopg [117] k2 (fun kq v117 w' => ∃ (x117_3 : Int) (x369000_3 : Int) (x369001_3 : Int) (x369002_3 : Int) (x369003_3 : Int) (x369004_3 : Int) (x369005_3 : Int) (x369006_3 : Int), v117 = .int .i64 x117_3 ∧ Aside0 (warp_Draw.l2 kq a4 x19_1 x20_2 t360 t361 t364 t365 (t365.length : Int) x117_3 a0_0 a0_1 l0_2 a1_0 a1_1 a2_0 a2_1 a2_2 a2_3 a3_0 a3_1 a3_2 l3_3 a5_0 a5_1 a5_2 a5_3 a5_2 a5_3 x357002_2 x369000_3 x369001_3 x369002_3 x369003_3 x369004_3 x369005_3 x369006_3 = some (r1, r2, r3, r4)) ∧ Aside0 (kq ≤ k2) ∧ Aside0 (Kd.R (Kd.int .i64) 3 w' w.heap.size (fun k_ => some k_ ≠ ((.slice Ao102 t365.length co102) : Value).ownBlock) v362 t361) ∧ Aside0 (Kd.R (Kd.int .i64) 3 w' w.heap.size (fun k_ => some k_ ≠ (v362 : Value).ownBlock) (.slice Ao102 t365.length co102) t365) ∧ Aside0 (Kd.R k48 48 w' w.heap.size (fun _ => True) u357002 x357002_2) ∧ Aside0 (w'.heap[V7]? = some (.cells #[.int .i64 a0_0, .int .i64 a0_1, (.slice A0_2 l0_2.length c0_2)] 40 (0, 0))) ∧ Aside0 (w'.heap[V8]? = some (.cells #[.int .i64 a1_0, .int .i64 a1_1] 28 (0, 0))) ∧ Aside0 (w'.heap[V9]? = some (.cells #[.int .i64 a2_0, .int .i64 a2_1, .int .i64 a2_2, .int .i64 a2_3] 34 (0, 0))) ∧ Aside0 (w'.heap[Y2]? = some (.cells #[.int .i64 a3_0, .int .i64 a3_1, .int .i64 a3_2, (.slice A3_3 l3_3.length c3_3)] 24 (0, 0))) ∧ Aside0 (w'.heap[V2]? = some (.cells #[.int .i64 a5_0, .int .i64 a5_1, .int .i64 a5_2, .int .i64 a5_3] 34 (0, 0))) ∧ Aside0 (w'.heap[V6]? = some (.cells #[.int .i64 0, .int .i64 0, (.slice none 0 0)] 40 (0, 0))) ∧ Aside0 (w'.heap[Y0]? = some (.cells #[.int .i64 t346, .int .i64 t347, .int .i64 t348, .int .i64 t349] 34 (0, 0))) ∧ Aside0 (w'.heap[E9]? = some (.cells #[.int .i64 a5_2, .int .i64 a5_3, u357002] 40 (0, 0))) ∧ Aside0 (w'.heap[E2F]? = some (.cells #[.int .i64 t357, .int .i64 t358] 28 (0, 0))) ∧ Aside0 (w'.heap[G1]? = some (.cells #[.int .i64 x369000_3, .int .i64 x369001_3, .int .i64 x369002_3, .int .i64 x369003_3, .int .i64 x369004_3, .int .i64 x369005_3, .int .i64 x369006_3] 72 (0, 0))) ∧ Aside0 (Below w.heap.size w w'))
     case atStart => exact ⟨(0), (0), (0), (0), (0), (0), (0), (0), (by first | rfl | (simp; done) | (simp [*]; done)), H', ⟨Nat.le_refl _⟩, ⟨by (with_reducible repeat (first | apply Kd.R_alloc | apply Kd.R_drewN | apply Kd.R_drew)); exact Kd.R_mono HO363.out (fun _ hk => hk.2)⟩, ⟨by (with_reducible repeat (first | apply Kd.R_alloc | apply Kd.R_drewN | apply Kd.R_drew)); exact Kd.R_mono HO367.out (fun _ hk => hk.2)⟩, ⟨by exact zr0 E8⟩, ⟨by exact zk0 E0⟩, ⟨by exact zk0 E1⟩, ⟨by exact zk0 E2⟩, ⟨by exact zk0 E4⟩, ⟨by exact zk0 E3⟩, ⟨by exact zk0 E5⟩, ⟨by exact zk0 E6⟩, ⟨by exact zk0 E7⟩, ⟨by exact zk0 G0⟩, ⟨by exact zk0 V3⟩, ⟨by exact zb0 HB⟩⟩
     case round =>
      clear H'
      try clear c1
      try clear c2
      try clear p2
      try clear q2
      try clear c3
      try clear q3
      try clear c4
      try clear q4
      try clear c5
      try clear c6
      try clear p6
      try clear c7
      try clear c8
      try clear E0P
      try clear E0Q
      try clear c9
      try clear c10
      try clear E0R
      try clear E0S
      try clear c12
      try clear c14
      try clear E1a
      try clear E1b
      try clear c15
      try clear E1c
      try clear E1d
      try clear c17
      try clear c19
      try clear c22
      try clear c23
      try clear c24
      try clear c25
      try clear c26
      try clear c29
      try clear c30
      try clear c31
      try clear c32
      try clear c34
      try clear c35
      try clear c36
      try clear c38
      try clear c39
      try clear c43
      try clear c44
      try clear c45
      try clear c46
      try clear c47
      try clear c48
      try clear c50
      try clear c51
      try clear c64
      try clear p64
      try clear c66
      try clear E2j
      try clear c68
      try clear E2E
      try clear c72
      try clear c73
      try clear c74
      try clear c75
      try clear c76
      try clear c77
      try clear c78
      try clear c80
      try clear c81
      try clear c82
      try clear c83
      try clear c84
      try clear c85
      try clear c89
      try clear c90
      try clear c91
      try clear c92
      try clear c93
      try clear c94
      try clear c95
      try clear c96
      try clear E1e
      try clear E1f
      try clear E1g
      try clear E1k
      try clear E1l
      try clear E1m
      try clear E1n
      try clear E1s
      try clear E1t
      try clear E1u
      try clear E1v
      try clear E1A
      try clear E1B
      try clear E1C
      try clear E1D
      try clear E1I
      try clear E1J
      try clear E1K
      try clear E1L
      try clear E1Q
      try clear E1R
      try clear E1S
      try clear E1W
      try clear E1X
      try clear E2b
      try clear E2c
      try clear E2d
      try clear E2e
      try clear E2w
      try clear E2x
      try clear E2y
      try clear E2z
      try clear E2L
      try clear E2M
      try clear E2N
      try clear E2O
      try clear E2T
      try clear E2U
      try clear E2V
      try clear E2W
      try clear E3k
      try clear E3l
      try clear E3o
      try clear E3p
      try clear E1h
      try clear E1i
      try clear E1j
      try clear E1o
      try clear E1p
      try clear E1q
      try clear E1r
      try clear E1w
      try clear E1x
      try clear E1y
      try clear E1z
      try clear E1E
      try clear E1F
      try clear E1G
      try clear E1H
      try clear E1M
      try clear E1N
      try clear E1O
      try clear E1P
      try clear E1T
      try clear E1U
      try clear E1V
      try clear E1Y
      try clear E1Z
      try clear E2f
      try clear E2g
      try clear E2h
      try clear E2i
      try clear E2A
      try clear E2B
      try clear E2C
      try clear E2D
      try clear E2P
      try clear E2Q
      try clear E2R
      try clear E2S
      try clear E2X
      try clear E2Y
      try clear E2Z
      try clear E3a
      try clear E3m
      try clear E3n
      try clear E3q
      try clear E3r
      try clear p2
      try clear p6
      try clear p64
      try clear q2
      try clear q3
      try clear q4
      obtain ⟨x117_3, x369000_3, x369001_3, x369002_3, x369003_3, x369004_3, x369005_3, x369006_3, rfl, HA, HK3, V4, V5, E8, E0, E1, E2, E4, E3, E5, E6, E7, G0, V3, HB⟩ := hrel
      cases gk with
      | zero => exact absurd HA.out (by simp [warp_Draw.l2])
      | succ k3 =>
       have H := HA.out
       clear HA
       simp only [warp_Draw.l2] at H
       by_cases c103 : x117_3 < (t365.length : Int)
       rotate_left
       ·rw [if_neg c103] at H
        have E3t : decide (x117_3 < (t365.length : Int)) = false := decide_eq_false c103
        clear c103
        replace H := Option.bind_eq_some_iff.mp H
        obtain ⟨⟨t369, t370, t371, t372, t373, t374, t375, t376, t377, t378, t379⟩, A1140, H⟩ := H
        try dsimp only at H
        have A114 := Aside0.mk A1140
        clear A1140
        by_cases c115 : x357002_2.length < 4398046511104
        rotate_left
        ·rw [if_neg c115] at H
         exact absurd H (by simp)
        rw [if_pos c115] at H
        have LMc115 := Aside0.mk c115
        clear c115
        obtain ⟨y380, hy380⟩ : ∃ y_ : List (S48), y_ = (x357002_2 ++ [(⟨t369, t370, t371, t372⟩ : S48)]) := ⟨_, rfl⟩
        replace H : (warp_Draw.l1 k3 a4 x19_1 (wrap64 (x20_2 + 1)) a0_0 a0_1 l0_2 a1_0 a1_1 a2_0 a2_1 a2_2 a2_3 a3_0 a3_1 a3_2 l3_3 a5_0 a5_1 a5_2 a5_3 a5_2 a5_3 y380) = some (r1, r2, r3, r4) := by first | (rw [hy380]; with_reducible exact H) | (have H2_ := (Option.bind_some _ _).symm.trans H; rw [hy380]; with_reducible exact H2_) | (have H2_ := (Option.bind_some _ _).symm.trans H; with_reducible exact H2_) | with_reducible exact H | (rw [hy380]; exact H) | exact H
        have Ny380 := Aside0.mk hy380
        clear hy380
        as_aux_lemma =>
         have H' := Aside0.mk H
         clear H
         try go_wp2
         replace V4 := zrd V4
         replace V5 := zrd V5
         replace E8 := zrd E8
         replace E0 := zkd E0
         replace E1 := zkd E1
         replace E2 := zkd E2
         replace E4 := zkd E4
         replace E3 := zkd E3
         replace E5 := zkd E5
         replace E6 := zkd E6
         replace E7 := zkd E7
         replace G0 := zkd G0
         replace V3 := zkd V3
         replace HB := zbd HB
         refine start_ (n := 7) (S := fun w' => w'.cell? ⟨E9, 0, none⟩ = some (.int .i64 a5_2) ∧ w'.cell? ⟨E9, 1, none⟩ = some (.int .i64 a5_3) ∧ w'.cell? ⟨E9, 2, none⟩ = some (u357002)) (ds := [6]) (bs 7 0) (by kernel_rfl) rfl rfl ⟨(blk_cell E7.out 0).trans rfl, (blk_cell E7.out 1).trans rfl, (blk_cell E7.out 2).trans rfl⟩ (fun hHeld => ?_)
         generalize wr.drew = w116 at V4 V5 E8 E0 E1 E2 E4 E3 E5 E6 E7 G0 V3 HB hHeld ⊢
         have HI368 := Aside0.mk (show IsS72 w _ G1 x369000_3 x369001_3 x369002_3 x369003_3 x369004_3 x369005_3 x369006_3 from ⟨V3.out, E3s.out⟩)
         refine pure_ (i := 0) (N := some 143) (v := ?_) (a' := ?_) (bs 7 1) rfl rfl (by kernel_rfl) (fun _ _ _ h => h) (Or.inl ⟨by rfl, ?_⟩) ?_ ?_
         rotate_left
         ·intro w'
          go_simp
          with_reducible rfl
         rotate_left
         ·simp only [Act.put, sA, sB, sC, i64_w, i32_w]
          rfl
         refine take_ (i := 1) (N := some 144) (v := ?_) (a' := ?_) (bs 7 3) rfl rfl (by kernel_rfl) (fun _ _ _ h => h) (Or.inl ⟨by rfl, ?_⟩) hHeld ?_ ?_
         rotate_left
         ·rintro w' ⟨s0, s1, s2⟩
          go_simp
          with_reducible rfl
         rotate_left
         ·simp only [Act.put, sA, sB, sC, i64_w, i32_w]
          rfl
         refine one_ (i := 2) (N := some 145) (bs 7 7) rfl rfl (by kernel_rfl) (by decide) (fun K hK => ?_)
         refine goes_ Try.func52 (by kernel_rfl) rfl #[.pointer (some ⟨G1, 0, none⟩), .int .i64 4294967296] (by rfl) rfl rfl (by (try simp only [List.map_toArray, List.map_cons, List.map_nil]); first | done | rfl | (simp only [List.length_drop, List.length_take]; rfl)) ?_
         with_reducible refine (warp_sums_pixel.calls k3 G1 x369000_3 x369001_3 x369002_3 x369003_3 x369004_3 x369005_3 x369006_3 4294967296 t369 t370 t371 t372 t373 t374 t375 t376 t377 t378 t379 w _ ?side1 ?side2 A114.out).mono ?_
         (case side1 => repeat (first | (with_reducible first | exact HI368.out | apply IsS72.alloc | apply IsS72.drewN | apply IsS72.drew | apply IsS72.set_0 | apply IsS72.set_1 | apply IsS72.set_2 | apply IsS72.set_3 | apply IsS72.set_4 | apply IsS72.set_5 | apply IsS72.set_6 | refine IsS72.far ?_ G3.out _ | refine IsS72.far ?_ G4.out _ | refine IsS72.far ?_ G5.out _ | refine IsS72.far ?_ G6.out _ | refine IsS72.far ?_ G7.out _ | refine IsS72.far ?_ G8.out _ | refine IsS72.far ?_ G9.out _ | refine IsS72.far ?_ G2.out _ | refine IsS72.far ?_ V0.out _) | exact HI368.out))
         (case side2 => exact zb0 HB)
         rintro e w117 ⟨rfl, hi, hb, hk⟩
         refine ⟨_, rfl, ?_⟩
         have n0_ := Aside0.mk (Kd.R_mono (Kd.R_keep (IsS72.apart (show IsS72 w _ G1 x369000_3 x369001_3 x369002_3 x369003_3 x369004_3 x369005_3 x369006_3 from by repeat (first | (with_reducible first | exact HI368.out | apply IsS72.alloc | apply IsS72.drewN | apply IsS72.drew | apply IsS72.set_0 | apply IsS72.set_1 | apply IsS72.set_2 | apply IsS72.set_3 | apply IsS72.set_4 | apply IsS72.set_5 | apply IsS72.set_6 | refine IsS72.far ?_ G3.out _ | refine IsS72.far ?_ G4.out _ | refine IsS72.far ?_ G5.out _ | refine IsS72.far ?_ G6.out _ | refine IsS72.far ?_ G7.out _ | refine IsS72.far ?_ G8.out _ | refine IsS72.far ?_ G9.out _ | refine IsS72.far ?_ G2.out _ | refine IsS72.far ?_ V0.out _) | exact HI368.out)) (by exact zr0 V4) (by decide)) hk (fun _ h => h.2)) (fun _ h => h.1))
         have n1_ := Aside0.mk (Kd.R_mono (Kd.R_keep (IsS72.apart (show IsS72 w _ G1 x369000_3 x369001_3 x369002_3 x369003_3 x369004_3 x369005_3 x369006_3 from by repeat (first | (with_reducible first | exact HI368.out | apply IsS72.alloc | apply IsS72.drewN | apply IsS72.drew | apply IsS72.set_0 | apply IsS72.set_1 | apply IsS72.set_2 | apply IsS72.set_3 | apply IsS72.set_4 | apply IsS72.set_5 | apply IsS72.set_6 | refine IsS72.far ?_ G3.out _ | refine IsS72.far ?_ G4.out _ | refine IsS72.far ?_ G5.out _ | refine IsS72.far ?_ G6.out _ | refine IsS72.far ?_ G7.out _ | refine IsS72.far ?_ G8.out _ | refine IsS72.far ?_ G9.out _ | refine IsS72.far ?_ G2.out _ | refine IsS72.far ?_ V0.out _) | exact HI368.out)) (by exact zr0 V5) (by decide)) hk (fun _ h => h.2)) (fun _ h => h.1))
         have n2_ := Aside0.mk (Kd.R_mono (Kd.R_keep (IsS72.apart (show IsS72 w _ G1 x369000_3 x369001_3 x369002_3 x369003_3 x369004_3 x369005_3 x369006_3 from by repeat (first | (with_reducible first | exact HI368.out | apply IsS72.alloc | apply IsS72.drewN | apply IsS72.drew | apply IsS72.set_0 | apply IsS72.set_1 | apply IsS72.set_2 | apply IsS72.set_3 | apply IsS72.set_4 | apply IsS72.set_5 | apply IsS72.set_6 | refine IsS72.far ?_ G3.out _ | refine IsS72.far ?_ G4.out _ | refine IsS72.far ?_ G5.out _ | refine IsS72.far ?_ G6.out _ | refine IsS72.far ?_ G7.out _ | refine IsS72.far ?_ G8.out _ | refine IsS72.far ?_ G9.out _ | refine IsS72.far ?_ G2.out _ | refine IsS72.far ?_ V0.out _) | exact HI368.out)) (by exact zr0 E8) (by decide)) hk (fun _ h => h.2)) (fun _ h => h.1))
         have n3_ := Aside0.mk (KeepBut.blk hk (zk0 E0) (Ne.symm (IsS72.ne_blk (show IsS72 w _ G1 x369000_3 x369001_3 x369002_3 x369003_3 x369004_3 x369005_3 x369006_3 from by repeat (first | (with_reducible first | exact HI368.out | apply IsS72.alloc | apply IsS72.drewN | apply IsS72.drew | apply IsS72.set_0 | apply IsS72.set_1 | apply IsS72.set_2 | apply IsS72.set_3 | apply IsS72.set_4 | apply IsS72.set_5 | apply IsS72.set_6 | refine IsS72.far ?_ G3.out _ | refine IsS72.far ?_ G4.out _ | refine IsS72.far ?_ G5.out _ | refine IsS72.far ?_ G6.out _ | refine IsS72.far ?_ G7.out _ | refine IsS72.far ?_ G8.out _ | refine IsS72.far ?_ G9.out _ | refine IsS72.far ?_ G2.out _ | refine IsS72.far ?_ V0.out _) | exact HI368.out)) (zk0 E0) (by decide))) (by simp))
         have n4_ := Aside0.mk (KeepBut.blk hk (zk0 E1) (Ne.symm (IsS72.ne_blk (show IsS72 w _ G1 x369000_3 x369001_3 x369002_3 x369003_3 x369004_3 x369005_3 x369006_3 from by repeat (first | (with_reducible first | exact HI368.out | apply IsS72.alloc | apply IsS72.drewN | apply IsS72.drew | apply IsS72.set_0 | apply IsS72.set_1 | apply IsS72.set_2 | apply IsS72.set_3 | apply IsS72.set_4 | apply IsS72.set_5 | apply IsS72.set_6 | refine IsS72.far ?_ G3.out _ | refine IsS72.far ?_ G4.out _ | refine IsS72.far ?_ G5.out _ | refine IsS72.far ?_ G6.out _ | refine IsS72.far ?_ G7.out _ | refine IsS72.far ?_ G8.out _ | refine IsS72.far ?_ G9.out _ | refine IsS72.far ?_ G2.out _ | refine IsS72.far ?_ V0.out _) | exact HI368.out)) (zk0 E1) (by decide))) (by simp))
         have n5_ := Aside0.mk (KeepBut.blk hk (zk0 E2) (Ne.symm (IsS72.ne_blk (show IsS72 w _ G1 x369000_3 x369001_3 x369002_3 x369003_3 x369004_3 x369005_3 x369006_3 from by repeat (first | (with_reducible first | exact HI368.out | apply IsS72.alloc | apply IsS72.drewN | apply IsS72.drew | apply IsS72.set_0 | apply IsS72.set_1 | apply IsS72.set_2 | apply IsS72.set_3 | apply IsS72.set_4 | apply IsS72.set_5 | apply IsS72.set_6 | refine IsS72.far ?_ G3.out _ | refine IsS72.far ?_ G4.out _ | refine IsS72.far ?_ G5.out _ | refine IsS72.far ?_ G6.out _ | refine IsS72.far ?_ G7.out _ | refine IsS72.far ?_ G8.out _ | refine IsS72.far ?_ G9.out _ | refine IsS72.far ?_ G2.out _ | refine IsS72.far ?_ V0.out _) | exact HI368.out)) (zk0 E2) (by decide))) (by simp))
         have n6_ := Aside0.mk (KeepBut.blk hk (zk0 E4) (Ne.symm (IsS72.ne_blk (show IsS72 w _ G1 x369000_3 x369001_3 x369002_3 x369003_3 x369004_3 x369005_3 x369006_3 from by repeat (first | (with_reducible first | exact HI368.out | apply IsS72.alloc | apply IsS72.drewN | apply IsS72.drew | apply IsS72.set_0 | apply IsS72.set_1 | apply IsS72.set_2 | apply IsS72.set_3 | apply IsS72.set_4 | apply IsS72.set_5 | apply IsS72.set_6 | refine IsS72.far ?_ G3.out _ | refine IsS72.far ?_ G4.out _ | refine IsS72.far ?_ G5.out _ | refine IsS72.far ?_ G6.out _ | refine IsS72.far ?_ G7.out _ | refine IsS72.far ?_ G8.out _ | refine IsS72.far ?_ G9.out _ | refine IsS72.far ?_ G2.out _ | refine IsS72.far ?_ V0.out _) | exact HI368.out)) (zk0 E4) (by decide))) (by simp))
         have n7_ := Aside0.mk (KeepBut.blk hk (zk0 E3) (Ne.symm (IsS72.ne_blk (show IsS72 w _ G1 x369000_3 x369001_3 x369002_3 x369003_3 x369004_3 x369005_3 x369006_3 from by repeat (first | (with_reducible first | exact HI368.out | apply IsS72.alloc | apply IsS72.drewN | apply IsS72.drew | apply IsS72.set_0 | apply IsS72.set_1 | apply IsS72.set_2 | apply IsS72.set_3 | apply IsS72.set_4 | apply IsS72.set_5 | apply IsS72.set_6 | refine IsS72.far ?_ G3.out _ | refine IsS72.far ?_ G4.out _ | refine IsS72.far ?_ G5.out _ | refine IsS72.far ?_ G6.out _ | refine IsS72.far ?_ G7.out _ | refine IsS72.far ?_ G8.out _ | refine IsS72.far ?_ G9.out _ | refine IsS72.far ?_ G2.out _ | refine IsS72.far ?_ V0.out _) | exact HI368.out)) (zk0 E3) (by decide))) (by simp))
         have n8_ := Aside0.mk (KeepBut.blk hk (zk0 E5) (Ne.symm (IsS72.ne_blk (show IsS72 w _ G1 x369000_3 x369001_3 x369002_3 x369003_3 x369004_3 x369005_3 x369006_3 from by repeat (first | (with_reducible first | exact HI368.out | apply IsS72.alloc | apply IsS72.drewN | apply IsS72.drew | apply IsS72.set_0 | apply IsS72.set_1 | apply IsS72.set_2 | apply IsS72.set_3 | apply IsS72.set_4 | apply IsS72.set_5 | apply IsS72.set_6 | refine IsS72.far ?_ G3.out _ | refine IsS72.far ?_ G4.out _ | refine IsS72.far ?_ G5.out _ | refine IsS72.far ?_ G6.out _ | refine IsS72.far ?_ G7.out _ | refine IsS72.far ?_ G8.out _ | refine IsS72.far ?_ G9.out _ | refine IsS72.far ?_ G2.out _ | refine IsS72.far ?_ V0.out _) | exact HI368.out)) (zk0 E5) (by decide))) (by simp))
         have n9_ := Aside0.mk (KeepBut.blk hk (zk0 E6) (Ne.symm (IsS72.ne_blk (show IsS72 w _ G1 x369000_3 x369001_3 x369002_3 x369003_3 x369004_3 x369005_3 x369006_3 from by repeat (first | (with_reducible first | exact HI368.out | apply IsS72.alloc | apply IsS72.drewN | apply IsS72.drew | apply IsS72.set_0 | apply IsS72.set_1 | apply IsS72.set_2 | apply IsS72.set_3 | apply IsS72.set_4 | apply IsS72.set_5 | apply IsS72.set_6 | refine IsS72.far ?_ G3.out _ | refine IsS72.far ?_ G4.out _ | refine IsS72.far ?_ G5.out _ | refine IsS72.far ?_ G6.out _ | refine IsS72.far ?_ G7.out _ | refine IsS72.far ?_ G8.out _ | refine IsS72.far ?_ G9.out _ | refine IsS72.far ?_ G2.out _ | refine IsS72.far ?_ V0.out _) | exact HI368.out)) (zk0 E6) (by decide))) (by simp))
         have n10_ := Aside0.mk (KeepBut.blk hk (zk0 E7) (Ne.symm (IsS72.ne_blk (show IsS72 w _ G1 x369000_3 x369001_3 x369002_3 x369003_3 x369004_3 x369005_3 x369006_3 from by repeat (first | (with_reducible first | exact HI368.out | apply IsS72.alloc | apply IsS72.drewN | apply IsS72.drew | apply IsS72.set_0 | apply IsS72.set_1 | apply IsS72.set_2 | apply IsS72.set_3 | apply IsS72.set_4 | apply IsS72.set_5 | apply IsS72.set_6 | refine IsS72.far ?_ G3.out _ | refine IsS72.far ?_ G4.out _ | refine IsS72.far ?_ G5.out _ | refine IsS72.far ?_ G6.out _ | refine IsS72.far ?_ G7.out _ | refine IsS72.far ?_ G8.out _ | refine IsS72.far ?_ G9.out _ | refine IsS72.far ?_ G2.out _ | refine IsS72.far ?_ V0.out _) | exact HI368.out)) (zk0 E7) (by decide))) (by simp))
         have n11_ := Aside0.mk (KeepBut.blk hk (zk0 G0) (Ne.symm (IsS72.ne_blk (show IsS72 w _ G1 x369000_3 x369001_3 x369002_3 x369003_3 x369004_3 x369005_3 x369006_3 from by repeat (first | (with_reducible first | exact HI368.out | apply IsS72.alloc | apply IsS72.drewN | apply IsS72.drew | apply IsS72.set_0 | apply IsS72.set_1 | apply IsS72.set_2 | apply IsS72.set_3 | apply IsS72.set_4 | apply IsS72.set_5 | apply IsS72.set_6 | refine IsS72.far ?_ G3.out _ | refine IsS72.far ?_ G4.out _ | refine IsS72.far ?_ G5.out _ | refine IsS72.far ?_ G6.out _ | refine IsS72.far ?_ G7.out _ | refine IsS72.far ?_ G8.out _ | refine IsS72.far ?_ G9.out _ | refine IsS72.far ?_ G2.out _ | refine IsS72.far ?_ V0.out _) | exact HI368.out)) (zk0 G0) (by decide))) (by simp))
         have n12_ := Aside0.mk (hb)
         have n13_ := Aside0.mk (hi.1)
         clear V4
         clear V5
         clear E8
         clear E0
         clear E1
         clear E2
         clear E4
         clear E3
         clear E5
         clear E6
         clear E7
         clear G0
         clear HB
         clear V3
         clear HI368
         have V4 := n0_
         have V5 := n1_
         have E8 := n2_
         have E0 := n3_
         have E1 := n4_
         have E2 := n5_
         have E4 := n6_
         have E3 := n7_
         have E5 := n8_
         have E6 := n9_
         have E7 := n10_
         have G0 := n11_
         have HB := n12_
         have V3 := n13_
         clear n0_ n1_ n2_ n3_ n4_ n5_ n6_ n7_ n8_ n9_ n10_ n11_ n12_ n13_
         (try clear hb)
         (try clear hb2)
         (try clear hk)
         (try clear hi)
         refine hK.out _ _ ⟨(blk_cell E7.out 0).trans rfl, (blk_cell E7.out 1).trans rfl, (blk_cell E7.out 2).trans rfl⟩ (fun hHeld => ?_)
         clear hK K
         refine norm_ (a' := ?_) ?_ ?_
         rotate_left
         ·show Act.put _ (some 145) _ = _
          simp only [Act.put, sA, sB, sC, i64_w, i32_w]
          rfl
         refine one_ (i := 3) (N := some 146) (bs 7 15) rfl rfl (by kernel_rfl) (by decide) (fun K hK => ?_)
         refine value_ (w1 := ?_) (v := ?_) (by rfl) rfl ?_ ?_
         rotate_left 2
         ·go_simp
          constructor
          ·rfl
          ·rfl
         refine hK.out _ _ ⟨(blk_cell (blk_alloc E7.out _) 0).trans rfl, (blk_cell (blk_alloc E7.out _) 1).trans rfl, (blk_cell (blk_alloc E7.out _) 2).trans rfl⟩ (fun hHeld => ?_)
         clear hK K
         refine norm_ (a' := ?_) ?_ ?_
         rotate_left
         ·show Act.put _ (some 146) _ = _
          simp only [Act.put, sA, sB, sC, i64_w, i32_w]
          rfl
         refine one_ (i := 4) (N := some 147) (bs 7 31) rfl rfl (by kernel_rfl) (by decide) (fun K hK => ?_)
         refine Kd.R_append_step k48 (w0 := w) w.heap.size (by rfl) (.tmp 144) (.tmp 146) 38 48 (.agg #[(.int .i64 0), (.int .i64 0), (.int .i64 0), (.int .i64 0)]) 32 rfl Try.underlying38 info48 rfl (by decide) (by omega) u357002 x357002_2 (⟨t369, t370, t371, t372⟩ : S48) [.int .i64 t369, .int .i64 t370, .int .i64 t371, .int .i64 t372] (fun _ => True) (fun _ => False) rfl rfl ?aP (fun _ hk => hk.elim) ?aF ?aO ?aB ?aS ?aL ?_
         (case aP => exact k48_mkM _ _ _ (⟨t369, t370, t371, t372⟩ : S48))
         (case aB => exact (by exact zb0 HB))
         (case aF => exact (fun _ _ => trivial))
         (case aO => exact (by exact zr0 E8))
         (case aS => exact (below_size (by exact zb0 HB)))
         (case aL => have := LMc115.out; omega)
         intro v381 w118 ho hb hg hat
         rw [← Ny380.out] at ho
         have n0_ := Aside0.mk (Kd.R_over' (by exact zr0 V4) (Kd.R_typed (by exact zr0 E8)) (by decide) hg)
         have n1_ := Aside0.mk (Kd.R_over' (by exact zr0 V5) (Kd.R_typed (by exact zr0 E8)) (by decide) hg)
         have n2_ := Aside0.mk (blk_grown (zk0 E0) hg (Kd.R_ne E8.out E0.out (by decide)))
         have n3_ := Aside0.mk (blk_grown (zk0 E1) hg (Kd.R_ne E8.out E1.out (by decide)))
         have n4_ := Aside0.mk (blk_grown (zk0 E2) hg (Kd.R_ne E8.out E2.out (by decide)))
         have n5_ := Aside0.mk (blk_grown (zk0 E4) hg (Kd.R_ne E8.out E4.out (by decide)))
         have n6_ := Aside0.mk (blk_grown (zk0 E3) hg (Kd.R_ne E8.out E3.out (by decide)))
         have n7_ := Aside0.mk (blk_grown (zk0 E5) hg (Kd.R_ne E8.out E5.out (by decide)))
         have n8_ := Aside0.mk (blk_grown (zk0 E6) hg (Kd.R_ne E8.out E6.out (by decide)))
         have n9_ := Aside0.mk (blk_grown (zk0 E7) hg (Kd.R_ne E8.out E7.out (by decide)))
         have n10_ := Aside0.mk (blk_grown (zk0 G0) hg (Kd.R_ne E8.out G0.out (by decide)))
         have n11_ := Aside0.mk (blk_grown (zk0 V3) hg (Kd.R_ne E8.out V3.out (by decide)))
         have n12_ := Aside0.mk (hb)
         have n13_ := Aside0.mk (ho)
         clear V4
         clear V5
         clear E0
         clear E1
         clear E2
         clear E4
         clear E3
         clear E5
         clear E6
         clear E7
         clear G0
         clear V3
         clear HB
         clear E8
         have V4 := n0_
         have V5 := n1_
         have E0 := n2_
         have E1 := n3_
         have E2 := n4_
         have E4 := n5_
         have E3 := n6_
         have E5 := n7_
         have E6 := n8_
         have E7 := n9_
         have G0 := n10_
         have V3 := n11_
         have HB := n12_
         have HO382 := n13_
         clear n0_ n1_ n2_ n3_ n4_ n5_ n6_ n7_ n8_ n9_ n10_ n11_ n12_ n13_
         clear ho hb hg hat
         obtain ⟨Ao119, co119, eo119⟩ := Kd.R_slice HO382.out
         (first | subst eo119 | (injection eo119 with f1_ f2_ f3_; have f4_ := f1_.symm; have f5_ := f3_.symm; clear f1_ f2_ f3_; subst f4_; subst f5_))
         refine hK.out _ _ ⟨(blk_cell E7.out 0).trans rfl, (blk_cell E7.out 1).trans rfl, (blk_cell E7.out 2).trans rfl⟩ (fun hHeld => ?_)
         clear hK K
         refine norm_ (a' := ?_) ?_ ?_
         rotate_left
         ·show Act.put _ (some 147) _ = _
          simp only [Act.put, sA, sB, sC, i64_w, i32_w]
          rfl
         refine pure_ (i := 5) (N := some 148) (v := ?_) (a' := ?_) (bs 7 63) rfl rfl (by kernel_rfl) (fun _ _ _ h => h) (Or.inl ⟨by rfl, ?_⟩) ?_ ?_
         rotate_left
         ·intro w'
          go_simp
          with_reducible rfl
         rotate_left
         ·simp only [Act.put, sA, sB, sC, i64_w, i32_w]
          rfl
         refine last_ (i := 6) (N := none) (bs 7 127) rfl rfl (by kernel_rfl) (by decide) (fun K hK => ?_)
         have hs120 : w118.cell? ⟨E9, 2, none⟩ = some (u357002) := (blk_cell E7.out 2).trans rfl
         have hfs120 := blk_frozen E7.out 2
         have G1F := Y7.out
         have G1G := Y8.out
         have G1H := Y9.out
         have G1I := Y3.out
         have G1J := V1.out
         have G1K := Z0.out
         have G1L := Z1.out
         have G1M := E3j.out
         have G1N := G2.out
         have G1O := Q1.out
         have G1P := Q2.out
         have G1Q := Q3.out
         have G1R := L3.out
         have G1S := L2.out
         have G1T := Q4.out
         have G1U := Q5.out
         have G1V := E2G.out
         have G1W := E3B.out
         refine skip_ (w1 := ?_) (by rfl) rfl ?_ ?_
         rotate_left
         ·go_simp
          rfl
         refine hK.out _ _ ?_
         clear hK K
         refine done_ (by kernel_rfl) ?_
         try go_wp2
         first | go_roundg k3 | ((try subst L1); go_roundg k3)
         case measure => have := HK1.out; have := HK2.out; have := HK3.out; omega
         case rel => first | (exact ⟨(wrap64 (x20_2 + 1)), (y380), (.slice Ao119 y380.length co119), (by first | rfl | (simp; done) | (simp [*]; done)), H', ⟨by have := HK1.out; have := HK2.out; have := HK3.out; omega⟩, ⟨by exact zro HO382 E7 (by decide)⟩, ⟨by exact zf E0 Y7⟩, ⟨by exact zf E1 Y8⟩, ⟨by exact zf E2 Y9⟩, ⟨by exact zf E4 Y3⟩, ⟨by exact zf E3 V1⟩, ⟨by exact zf E5 Z0⟩, ⟨by exact zf E6 Z1⟩, ⟨by exact zp E7 rfl⟩, ⟨by exact zbo HB E0D⟩⟩) | (exact ⟨(wrap64 (x20_2 + 1)), (y380), (.slice Ao119 y380.length co119), (by first | rfl | (simp; done) | (simp [*]; done)), H', ⟨by have := HK1.out; have := HK2.out; have := HK3.out; omega⟩, ⟨by exact zro HO382 E7 (by decide)⟩, ⟨by exact zf E0 Y7⟩, ⟨by exact zf E1 Y8⟩, ⟨by exact zf E2 Y9⟩, ⟨by exact zf E4 Y3⟩, ⟨by exact zf E3 V1⟩, ⟨by exact zf E5 Z0⟩, ⟨by exact zf E6 Z1⟩, ⟨by exact zp E7 rfl⟩, ⟨by exact zbo HB E0D⟩⟩)
       rw [if_pos c103] at H
       have E3t : decide (x117_3 < (t365.length : Int)) = true := decide_eq_true c103
       clear c103
       by_cases c104 : 0 ≤ x117_3
       rotate_left
       ·rw [if_neg c104] at H
        exact absurd H (by simp)
       rw [if_pos c104] at H
       have E3C : decide (0 ≤ x117_3) = true := decide_eq_true c104
       clear c104
       by_cases c105 : x117_3 < (t365.length : Int)
       rotate_left
       ·rw [if_neg c105] at H
        exact absurd H (by simp)
       rw [if_pos c105] at H
       have E3D : decide (x117_3 < (t365.length : Int)) = true := decide_eq_true c105
       clear c105
       have H' := Aside0.mk H
       clear H
       have p383 : 0 ≤ (x117_3 : Int) := of_decide_eq_true (by first | (with_reducible assumption) | assumption)
       have q383 : x117_3 < (t365.length : Int) := of_decide_eq_true (by first | (with_reducible assumption) | assumption)
       obtain ⟨E2H, e383, E3E⟩ := Kd.at_int (Kd.R_reads' V5.out).2.2 x117_3 p383 q383
       cases e383
       replace p383 := eq_true p383
       replace q383 := eq_true q383
       obtain ⟨Ao106, co106, eo106⟩ := Kd.R_slice V4.out
       subst eo106
       go_wp2
       go_loopg [124] k3 (fun kq v124 w' => ∃ (x124_4 : Int) (x369000_4 : Int) (x369001_4 : Int) (x369002_4 : Int) (x369003_4 : Int) (x369004_4 : Int) (x369005_4 : Int) (x369006_4 : Int), v124 = .int .i64 x124_4 ∧ Aside0 (warp_Draw.l3 kq a4 x19_1 x20_2 t360 t361 t364 x117_3 (rd t365 x117_3) t365 (t365.length : Int) x117_3 t361 (t361.length : Int) x124_4 a0_0 a0_1 l0_2 a1_0 a1_1 a2_0 a2_1 a2_2 a2_3 a3_0 a3_1 a3_2 l3_3 a5_0 a5_1 a5_2 a5_3 a5_2 a5_3 x357002_2 x369000_4 x369001_4 x369002_4 x369003_4 x369004_4 x369005_4 x369006_4 = some (r1, r2, r3, r4)) ∧ Aside0 (kq ≤ k3) ∧ Aside0 (Kd.R (Kd.int .i64) 3 w' w.heap.size (fun k_ => some k_ ≠ ((.slice (some E2H) t365.length co102) : Value).ownBlock) (.slice Ao106 t361.length co106) t361) ∧ Aside0 (Kd.R (Kd.int .i64) 3 w' w.heap.size (fun k_ => some k_ ≠ ((.slice Ao106 t361.length co106) : Value).ownBlock ∧ some k_ ≠ ((.slice Ao106 t361.length co106) : Value).ownBlock) (.slice (some E2H) t365.length co102) t365) ∧ Aside0 (Kd.R (Kd.int .i64) 3 w' w.heap.size (fun k_ => some k_ ≠ ((.slice (some E2H) t365.length co102) : Value).ownBlock) (.slice Ao106 t361.length co106) t361) ∧ Aside0 (Kd.R k48 48 w' w.heap.size (fun _ => True) u357002 x357002_2) ∧ Aside0 (w'.heap[V7]? = some (.cells #[.int .i64 a0_0, .int .i64 a0_1, (.slice A0_2 l0_2.length c0_2)] 40 (0, 0))) ∧ Aside0 (w'.heap[V8]? = some (.cells #[.int .i64 a1_0, .int .i64 a1_1] 28 (0, 0))) ∧ Aside0 (w'.heap[V9]? = some (.cells #[.int .i64 a2_0, .int .i64 a2_1, .int .i64 a2_2, .int .i64 a2_3] 34 (0, 0))) ∧ Aside0 (w'.heap[Y2]? = some (.cells #[.int .i64 a3_0, .int .i64 a3_1, .int .i64 a3_2, (.slice A3_3 l3_3.length c3_3)] 24 (0, 0))) ∧ Aside0 (w'.heap[V2]? = some (.cells #[.int .i64 a5_0, .int .i64 a5_1, .int .i64 a5_2, .int .i64 a5_3] 34 (0, 0))) ∧ Aside0 (w'.heap[V6]? = some (.cells #[.int .i64 0, .int .i64 0, (.slice none 0 0)] 40 (0, 0))) ∧ Aside0 (w'.heap[Y0]? = some (.cells #[.int .i64 t346, .int .i64 t347, .int .i64 t348, .int .i64 t349] 34 (0, 0))) ∧ Aside0 (w'.heap[E9]? = some (.cells #[.int .i64 a5_2, .int .i64 a5_3, u357002] 40 (0, 0))) ∧ Aside0 (w'.heap[E2F]? = some (.cells #[.int .i64 t357, .int .i64 t358] 28 (0, 0))) ∧ Aside0 (w'.heap[G1]? = some (.cells #[.int .i64 x369000_4, .int .i64 x369001_4, .int .i64 x369002_4, .int .i64 x369003_4, .int .i64 x369004_4, .int .i64 x369005_4, .int .i64 x369006_4] 72 (0, 0))) ∧ Aside0 (Below w.heap.size w w'))
       case atStart => exact ⟨(0), (x369000_3), (x369001_3), (x369002_3), (x369003_3), (x369004_3), (x369005_3), (x369006_3), (by first | rfl | (simp; done) | (simp [*]; done)), H', ⟨Nat.le_refl _⟩, ⟨by exact zr0 V4⟩, ⟨by (with_reducible repeat (first | apply Kd.R_alloc | apply Kd.R_drewN | apply Kd.R_drew)); exact Kd.R_mono V5.out (fun _ hk => ⟨hk, hk⟩)⟩, ⟨by exact zr0 V4⟩, ⟨by exact zr0 E8⟩, ⟨by exact zk0 E0⟩, ⟨by exact zk0 E1⟩, ⟨by exact zk0 E2⟩, ⟨by exact zk0 E4⟩, ⟨by exact zk0 E3⟩, ⟨by exact zk0 E5⟩, ⟨by exact zk0 E6⟩, ⟨by exact zk0 E7⟩, ⟨by exact zk0 G0⟩, ⟨by exact zk0 V3⟩, ⟨by exact zb0 HB⟩⟩
       case round =>
        clear H'
        try clear c1
        try clear c2
        try clear p2
        try clear q2
        try clear c3
        try clear p3
        try clear q3
        try clear hx3
        try clear c4
        try clear q4
        try clear c5
        try clear c6
        try clear p6
        try clear c7
        try clear c8
        try clear E0P
        try clear E0Q
        try clear c9
        try clear c10
        try clear E0R
        try clear E0S
        try clear c12
        try clear c14
        try clear E1a
        try clear E1b
        try clear c15
        try clear E1c
        try clear E1d
        try clear c17
        try clear c19
        try clear c22
        try clear c23
        try clear c24
        try clear c25
        try clear c26
        try clear c29
        try clear c30
        try clear c31
        try clear c32
        try clear c34
        try clear c35
        try clear c36
        try clear c38
        try clear p38
        try clear q38
        try clear hx38
        try clear c39
        try clear c43
        try clear c44
        try clear c45
        try clear c46
        try clear c47
        try clear c48
        try clear c50
        try clear c51
        try clear c64
        try clear p64
        try clear c66
        try clear E2j
        try clear c68
        try clear E2E
        try clear c72
        try clear c73
        try clear c74
        try clear c75
        try clear c76
        try clear c77
        try clear c78
        try clear c80
        try clear c81
        try clear c82
        try clear c83
        try clear c84
        try clear c85
        try clear c89
        try clear c90
        try clear c91
        try clear c92
        try clear c93
        try clear c94
        try clear c95
        try clear c96
        try clear c103
        try clear E3t
        try clear c104
        try clear E3C
        try clear c105
        try clear E3D
        try clear E1e
        try clear E1f
        try clear E1g
        try clear E1k
        try clear E1l
        try clear E1m
        try clear E1n
        try clear E1s
        try clear E1t
        try clear E1u
        try clear E1v
        try clear E1A
        try clear E1B
        try clear E1C
        try clear E1D
        try clear E1I
        try clear E1J
        try clear E1K
        try clear E1L
        try clear E1Q
        try clear E1R
        try clear E1S
        try clear E1W
        try clear E1X
        try clear E2b
        try clear E2c
        try clear E2d
        try clear E2e
        try clear E2w
        try clear E2x
        try clear E2y
        try clear E2z
        try clear E2L
        try clear E2M
        try clear E2N
        try clear E2O
        try clear E2T
        try clear E2U
        try clear E2V
        try clear E2W
        try clear E3k
        try clear E3l
        try clear E3o
        try clear E3p
        try clear E1h
        try clear E1i
        try clear E1j
        try clear E1o
        try clear E1p
        try clear E1q
        try clear E1r
        try clear E1w
        try clear E1x
        try clear E1y
        try clear E1z
        try clear E1E
        try clear E1F
        try clear E1G
        try clear E1H
        try clear E1M
        try clear E1N
        try clear E1O
        try clear E1P
        try clear E1T
        try clear E1U
        try clear E1V
        try clear E1Y
        try clear E1Z
        try clear E2f
        try clear E2g
        try clear E2h
        try clear E2i
        try clear E2A
        try clear E2B
        try clear E2C
        try clear E2D
        try clear E2P
        try clear E2Q
        try clear E2R
        try clear E2S
        try clear E2X
        try clear E2Y
        try clear E2Z
        try clear E3a
        try clear E3m
        try clear E3n
        try clear E3q
        try clear E3r
        try clear E3E
        try clear p2
        try clear p383
        try clear p6
        try clear p64
        try clear q2
        try clear q3
        try clear q383
        try clear q4
        obtain ⟨x124_4, x369000_4, x369001_4, x369002_4, x369003_4, x369004_4, x369005_4, x369006_4, rfl, HA, HK4, V4, V5, E0l, E8, E0, E1, E2, E4, E3, E5, E6, E7, G0, V3, HB⟩ := hrel
        cases gk with
        | zero => exact absurd HA.out (by simp [warp_Draw.l3])
        | succ k4 =>
         have H := HA.out
         clear HA
         simp only [warp_Draw.l3] at H
         by_cases c107 : x124_4 < (t361.length : Int)
         rotate_left
         ·rw [if_neg c107] at H
          have E3F : decide (x124_4 < (t361.length : Int)) = false := decide_eq_false c107
          clear c107
          as_aux_lemma =>
           have H' := Aside0.mk H
           clear H
           go_wp2
           first | go_roundg k4 | ((try subst L1); go_roundg k4)
           case measure => have := HK1.out; have := HK2.out; have := HK3.out; have := HK4.out; omega
           case rel => first | (exact ⟨(wrap64 (x117_3 + 1)), (x369000_4), (x369001_4), (x369002_4), (x369003_4), (x369004_4), (x369005_4), (x369006_4), (by first | rfl | (simp; done) | (simp [*]; done)), H', ⟨by have := HK1.out; have := HK2.out; have := HK3.out; have := HK4.out; omega⟩, ⟨by exact zr0 V4⟩, ⟨by (with_reducible repeat (first | apply Kd.R_alloc | apply Kd.R_drewN | apply Kd.R_drew)); exact Kd.R_mono V5.out (fun _ hk => hk.1)⟩, ⟨by exact zr0 E8⟩, ⟨by exact zk0 E0⟩, ⟨by exact zk0 E1⟩, ⟨by exact zk0 E2⟩, ⟨by exact zk0 E4⟩, ⟨by exact zk0 E3⟩, ⟨by exact zk0 E5⟩, ⟨by exact zk0 E6⟩, ⟨by exact zk0 E7⟩, ⟨by exact zk0 G0⟩, ⟨by exact zk0 V3⟩, ⟨by exact zb0 HB⟩⟩) | (exact ⟨(wrap64 (x117_3 + 1)), (x369000_4), (x369001_4), (x369002_4), (x369003_4), (x369004_4), (x369005_4), (x369006_4), (by first | rfl | (simp; done) | (simp [*]; done)), H', ⟨by have := HK1.out; have := HK2.out; have := HK3.out; have := HK4.out; omega⟩, ⟨by exact zr0 V4⟩, ⟨by (with_reducible repeat (first | apply Kd.R_alloc | apply Kd.R_drewN | apply Kd.R_drew)); exact Kd.R_mono V5.out (fun _ hk => hk.1)⟩, ⟨by exact zr0 E8⟩, ⟨by exact zk0 E0⟩, ⟨by exact zk0 E1⟩, ⟨by exact zk0 E2⟩, ⟨by exact zk0 E4⟩, ⟨by exact zk0 E3⟩, ⟨by exact zk0 E5⟩, ⟨by exact zk0 E6⟩, ⟨by exact zk0 E7⟩, ⟨by exact zk0 G0⟩, ⟨by exact zk0 V3⟩, ⟨by exact zb0 HB⟩⟩)
         rw [if_pos c107] at H
         have E3F : decide (x124_4 < (t361.length : Int)) = true := decide_eq_true c107
         clear c107
         by_cases c108 : 0 ≤ x124_4
         rotate_left
         ·rw [if_neg c108] at H
          exact absurd H (by simp)
         rw [if_pos c108] at H
         have G1X : decide (0 ≤ x124_4) = true := decide_eq_true c108
         clear c108
         by_cases c109 : x124_4 < (t361.length : Int)
         rotate_left
         ·rw [if_neg c109] at H
          exact absurd H (by simp)
         rw [if_pos c109] at H
         have G1Y : decide (x124_4 < (t361.length : Int)) = true := decide_eq_true c109
         clear c109
         replace H := Option.bind_eq_some_iff.mp H
         obtain ⟨⟨t385, t386, t387, t388⟩, A1100, H⟩ := H
         try dsimp only at H
         have A110 := Aside0.mk A1100
         clear A1100
         replace H := Option.bind_eq_some_iff.mp H
         obtain ⟨⟨t389, t390, t391, t392, t393, t394, t395⟩, A1110, H⟩ := H
         try dsimp only at H
         have A111 := Aside0.mk A1110
         clear A1110
         as_aux_lemma =>
          have H' := Aside0.mk H
          clear H
          have p384 : 0 ≤ (x124_4 : Int) := of_decide_eq_true (by first | (with_reducible assumption) | assumption)
          have q384 : x124_4 < (t361.length : Int) := of_decide_eq_true (by first | (with_reducible assumption) | assumption)
          obtain ⟨G1Z, e384, G2a⟩ := Kd.at_int (Kd.R_reads' E0l.out).2.2 x124_4 p384 q384
          cases e384
          replace p384 := eq_true p384
          replace q384 := eq_true q384
          go_wp2_with (first | ((with_reducible refine gate_calleeT (t := 129) rfl ?_); refine goesLT_ (some 136) rfl rfl Try.func48 (by kernel_rfl) rfl #[.pointer (some ⟨V9, 0, none⟩), .pointer (some ⟨V8, 0, none⟩), .pointer (some ⟨V7, 0, none⟩)] #[.int .i64 (wrap64 (t360 + x124_4)), .int .i64 (wrap64 (t364 + x117_3)), .pointer (some ⟨V9, 0, none⟩), .pointer (some ⟨V8, 0, none⟩), .pointer (some ⟨V7, 0, none⟩)] rfl (by first | rfl | (go_simp; done) | (go_simp; rfl)) (by (try simp only [List.map_toArray, List.map_cons, List.map_nil]); first | done | rfl | (go_simp; done) | (go_simp; rfl)) ?_; (with_reducible refine (warp_Draw_1.calls (wrap64 (t360 + x124_4)) (wrap64 (t364 + x117_3)) V9 a2_0 a2_1 a2_2 a2_3 V8 a1_0 a1_1 V7 a0_0 a0_1 A0_2 c0_2 l0_2 t385 t386 t387 t388 _ ?side1 ?side2 ?side3 ?side4 ?side5 A110.out).mono ?_); (case side1 => exact zk0 E2); (case side2 => exact zk0 E1); (case side3 => exact zk0 E0); (case side4 => repeat (first | exact (Kd.C_below E0n.out HB.out) | (with_reducible refine Kd.C_alloc ?_ _) | (with_reducible refine Kd.C_drewN ?_ _) | (with_reducible refine Kd.C_drew ?_))); (case side5 => exact E0o.out); rintro e w112 ⟨rfl, hb⟩; refine ⟨_, rfl, ?_⟩; replace V4 := zr V4 hb; replace V5 := zr V5 hb; replace E0l := zr E0l hb; replace E8 := zr E8 hb; replace E0 := zk E0 hb; replace E1 := zk E1 hb; replace E2 := zk E2 hb; replace E4 := zk E4 hb; replace E3 := zk E3 hb; replace E5 := zk E5 hb; replace E6 := zk E6 hb; replace E7 := zk E7 hb; replace G0 := zk G0 hb; replace V3 := zk V3 hb; replace HB := zb HB hb; (try clear hb); (try clear hk); (try clear hi); have HI368 := Aside0.mk (show IsS72 w _ G1 x369000_4 x369001_4 x369002_4 x369003_4 x369004_4 x369005_4 x369006_4 from ⟨V3.out, E3s.out⟩)) | ((with_reducible refine gate_callee (f := 51) rfl ?_); refine goesL_ (some 140) rfl rfl Try.func51 (by kernel_rfl) rfl #[.pointer (some ⟨G1, 0, none⟩), .agg #[.int .i64 t385, .int .i64 t386, .int .i64 t387, .int .i64 t388], .int .i64 (wrap64 ((rd t361 x124_4) * (rd t365 x117_3)))] rfl (by (try simp only [List.map_toArray, List.map_cons, List.map_nil]); first | done | rfl | (simp only [List.length_drop, List.length_take]; rfl)) ?_; (with_reducible refine (warp_sums_add.calls G1 x369000_4 x369001_4 x369002_4 x369003_4 x369004_4 x369005_4 x369006_4 t385 t386 t387 t388 (wrap64 ((rd t361 x124_4) * (rd t365 x117_3))) t389 t390 t391 t392 t393 t394 t395 w _ ?side1 ?side2 A111.out).mono ?_); (case side1 => repeat (first | (with_reducible first | exact HI368.out | apply IsS72.alloc | apply IsS72.drewN | apply IsS72.drew | apply IsS72.set_0 | apply IsS72.set_1 | apply IsS72.set_2 | apply IsS72.set_3 | apply IsS72.set_4 | apply IsS72.set_5 | apply IsS72.set_6 | refine IsS72.far ?_ G3.out _ | refine IsS72.far ?_ G4.out _ | refine IsS72.far ?_ G5.out _ | refine IsS72.far ?_ G6.out _ | refine IsS72.far ?_ G7.out _ | refine IsS72.far ?_ G8.out _ | refine IsS72.far ?_ G9.out _ | refine IsS72.far ?_ G2.out _ | refine IsS72.far ?_ V0.out _) | exact HI368.out)); (case side2 => exact zb0 HB); rintro e w113 ⟨rfl, hi, hb, hk⟩; refine ⟨_, rfl, ?_⟩; have n0_ := Aside0.mk (Kd.R_mono (Kd.R_keep (IsS72.apart (show IsS72 w _ G1 x369000_4 x369001_4 x369002_4 x369003_4 x369004_4 x369005_4 x369006_4 from by repeat (first | (with_reducible first | exact HI368.out | apply IsS72.alloc | apply IsS72.drewN | apply IsS72.drew | apply IsS72.set_0 | apply IsS72.set_1 | apply IsS72.set_2 | apply IsS72.set_3 | apply IsS72.set_4 | apply IsS72.set_5 | apply IsS72.set_6 | refine IsS72.far ?_ G3.out _ | refine IsS72.far ?_ G4.out _ | refine IsS72.far ?_ G5.out _ | refine IsS72.far ?_ G6.out _ | refine IsS72.far ?_ G7.out _ | refine IsS72.far ?_ G8.out _ | refine IsS72.far ?_ G9.out _ | refine IsS72.far ?_ G2.out _ | refine IsS72.far ?_ V0.out _) | exact HI368.out)) (by exact zr0 V4) (by decide)) hk (fun _ h => h.2)) (fun _ h => h.1)); have n1_ := Aside0.mk (Kd.R_mono (Kd.R_keep (IsS72.apart (show IsS72 w _ G1 x369000_4 x369001_4 x369002_4 x369003_4 x369004_4 x369005_4 x369006_4 from by repeat (first | (with_reducible first | exact HI368.out | apply IsS72.alloc | apply IsS72.drewN | apply IsS72.drew | apply IsS72.set_0 | apply IsS72.set_1 | apply IsS72.set_2 | apply IsS72.set_3 | apply IsS72.set_4 | apply IsS72.set_5 | apply IsS72.set_6 | refine IsS72.far ?_ G3.out _ | refine IsS72.far ?_ G4.out _ | refine IsS72.far ?_ G5.out _ | refine IsS72.far ?_ G6.out _ | refine IsS72.far ?_ G7.out _ | refine IsS72.far ?_ G8.out _ | refine IsS72.far ?_ G9.out _ | refine IsS72.far ?_ G2.out _ | refine IsS72.far ?_ V0.out _) | exact HI368.out)) (by exact zr0 V5) (by decide)) hk (fun _ h => h.2)) (fun _ h => h.1)); have n2_ := Aside0.mk (Kd.R_mono (Kd.R_keep (IsS72.apart (show IsS72 w _ G1 x369000_4 x369001_4 x369002_4 x369003_4 x369004_4 x369005_4 x369006_4 from by repeat (first | (with_reducible first | exact HI368.out | apply IsS72.alloc | apply IsS72.drewN | apply IsS72.drew | apply IsS72.set_0 | apply IsS72.set_1 | apply IsS72.set_2 | apply IsS72.set_3 | apply IsS72.set_4 | apply IsS72.set_5 | apply IsS72.set_6 | refine IsS72.far ?_ G3.out _ | refine IsS72.far ?_ G4.out _ | refine IsS72.far ?_ G5.out _ | refine IsS72.far ?_ G6.out _ | refine IsS72.far ?_ G7.out _ | refine IsS72.far ?_ G8.out _ | refine IsS72.far ?_ G9.out _ | refine IsS72.far ?_ G2.out _ | refine IsS72.far ?_ V0.out _) | exact HI368.out)) (by exact zr0 E0l) (by decide)) hk (fun _ h => h.2)) (fun _ h => h.1)); have n3_ := Aside0.mk (Kd.R_mono (Kd.R_keep (IsS72.apart (show IsS72 w _ G1 x369000_4 x369001_4 x369002_4 x369003_4 x369004_4 x369005_4 x369006_4 from by repeat (first | (with_reducible first | exact HI368.out | apply IsS72.alloc | apply IsS72.drewN | apply IsS72.drew | apply IsS72.set_0 | apply IsS72.set_1 | apply IsS72.set_2 | apply IsS72.set_3 | apply IsS72.set_4 | apply IsS72.set_5 | apply IsS72.set_6 | refine IsS72.far ?_ G3.out _ | refine IsS72.far ?_ G4.out _ | refine IsS72.far ?_ G5.out _ | refine IsS72.far ?_ G6.out _ | refine IsS72.far ?_ G7.out _ | refine IsS72.far ?_ G8.out _ | refine IsS72.far ?_ G9.out _ | refine IsS72.far ?_ G2.out _ | refine IsS72.far ?_ V0.out _) | exact HI368.out)) (by exact zr0 E8) (by decide)) hk (fun _ h => h.2)) (fun _ h => h.1)); have n4_ := Aside0.mk (KeepBut.blk hk (zk0 E0) (Ne.symm (IsS72.ne_blk (show IsS72 w _ G1 x369000_4 x369001_4 x369002_4 x369003_4 x369004_4 x369005_4 x369006_4 from by repeat (first | (with_reducible first | exact HI368.out | apply IsS72.alloc | apply IsS72.drewN | apply IsS72.drew | apply IsS72.set_0 | apply IsS72.set_1 | apply IsS72.set_2 | apply IsS72.set_3 | apply IsS72.set_4 | apply IsS72.set_5 | apply IsS72.set_6 | refine IsS72.far ?_ G3.out _ | refine IsS72.far ?_ G4.out _ | refine IsS72.far ?_ G5.out _ | refine IsS72.far ?_ G6.out _ | refine IsS72.far ?_ G7.out _ | refine IsS72.far ?_ G8.out _ | refine IsS72.far ?_ G9.out _ | refine IsS72.far ?_ G2.out _ | refine IsS72.far ?_ V0.out _) | exact HI368.out)) (zk0 E0) (by decide))) (by simp)); have n5_ := Aside0.mk (KeepBut.blk hk (zk0 E1) (Ne.symm (IsS72.ne_blk (show IsS72 w _ G1 x369000_4 x369001_4 x369002_4 x369003_4 x369004_4 x369005_4 x369006_4 from by repeat (first | (with_reducible first | exact HI368.out | apply IsS72.alloc | apply IsS72.drewN | apply IsS72.drew | apply IsS72.set_0 | apply IsS72.set_1 | apply IsS72.set_2 | apply IsS72.set_3 | apply IsS72.set_4 | apply IsS72.set_5 | apply IsS72.set_6 | refine IsS72.far ?_ G3.out _ | refine IsS72.far ?_ G4.out _ | refine IsS72.far ?_ G5.out _ | refine IsS72.far ?_ G6.out _ | refine IsS72.far ?_ G7.out _ | refine IsS72.far ?_ G8.out _ | refine IsS72.far ?_ G9.out _ | refine IsS72.far ?_ G2.out _ | refine IsS72.far ?_ V0.out _) | exact HI368.out)) (zk0 E1) (by decide))) (by simp)); have n6_ := Aside0.mk (KeepBut.blk hk (zk0 E2) (Ne.symm (IsS72.ne_blk (show IsS72 w _ G1 x369000_4 x369001_4 x369002_4 x369003_4 x369004_4 x369005_4 x369006_4 from by repeat (first | (with_reducible first | exact HI368.out | apply IsS72.alloc | apply IsS72.drewN | apply IsS72.drew | apply IsS72.set_0 | apply IsS72.set_1 | apply IsS72.set_2 | apply IsS72.set_3 | apply IsS72.set_4 | apply IsS72.set_5 | apply IsS72.set_6 | refine IsS72.far ?_ G3.out _ | refine IsS72.far ?_ G4.out _ | refine IsS72.far ?_ G5.out _ | refine IsS72.far ?_ G6.out _ | refine IsS72.far ?_ G7.out _ | refine IsS72.far ?_ G8.out _ | refine IsS72.far ?_ G9.out _ | refine IsS72.far ?_ G2.out _ | refine IsS72.far ?_ V0.out _) | exact HI368.out)) (zk0 E2) (by decide))) (by simp)); have n7_ := Aside0.mk (KeepBut.blk hk (zk0 E4) (Ne.symm (IsS72.ne_blk (show IsS72 w _ G1 x369000_4 x369001_4 x369002_4 x369003_4 x369004_4 x369005_4 x369006_4 from by repeat (first | (with_reducible first | exact HI368.out | apply IsS72.alloc | apply IsS72.drewN | apply IsS72.drew | apply IsS72.set_0 | apply IsS72.set_1 | apply IsS72.set_2 | apply IsS72.set_3 | apply IsS72.set_4 | apply IsS72.set_5 | apply IsS72.set_6 | refine IsS72.far ?_ G3.out _ | refine IsS72.far ?_ G4.out _ | refine IsS72.far ?_ G5.out _ | refine IsS72.far ?_ G6.out _ | refine IsS72.far ?_ G7.out _ | refine IsS72.far ?_ G8.out _ | refine IsS72.far ?_ G9.out _ | refine IsS72.far ?_ G2.out _ | refine IsS72.far ?_ V0.out _) | exact HI368.out)) (zk0 E4) (by decide))) (by simp)); have n8_ := Aside0.mk (KeepBut.blk hk (zk0 E3) (Ne.symm (IsS72.ne_blk (show IsS72 w _ G1 x369000_4 x369001_4 x369002_4 x369003_4 x369004_4 x369005_4 x369006_4 from by repeat (first | (with_reducible first | exact HI368.out | apply IsS72.alloc | apply IsS72.drewN | apply IsS72.drew | apply IsS72.set_0 | apply IsS72.set_1 | apply IsS72.set_2 | apply IsS72.set_3 | apply IsS72.set_4 | apply IsS72.set_5 | apply IsS72.set_6 | refine IsS72.far ?_ G3.out _ | refine IsS72.far ?_ G4.out _ | refine IsS72.far ?_ G5.out _ | refine IsS72.far ?_ G6.out _ | refine IsS72.far ?_ G7.out _ | refine IsS72.far ?_ G8.out _ | refine IsS72.far ?_ G9.out _ | refine IsS72.far ?_ G2.out _ | refine IsS72.far ?_ V0.out _) | exact HI368.out)) (zk0 E3) (by decide))) (by simp)); have n9_ := Aside0.mk (KeepBut.blk hk (zk0 E5) (Ne.symm (IsS72.ne_blk (show IsS72 w _ G1 x369000_4 x369001_4 x369002_4 x369003_4 x369004_4 x369005_4 x369006_4 from by repeat (first | (with_reducible first | exact HI368.out | apply IsS72.alloc | apply IsS72.drewN | apply IsS72.drew | apply IsS72.set_0 | apply IsS72.set_1 | apply IsS72.set_2 | apply IsS72.set_3 | apply IsS72.set_4 | apply IsS72.set_5 | apply IsS72.set_6 | refine IsS72.far ?_ G3.out _ | refine IsS72.far ?_ G4.out _ | refine IsS72.far ?_ G5.out _ | refine IsS72.far ?_ G6.out _ | refine IsS72.far ?_ G7.out _ | refine IsS72.far ?_ G8.out _ | refine IsS72.far ?_ G9.out _ | refine IsS72.far ?_ G2.out _ | refine IsS72.far ?_ V0.out _) | exact HI368.out)) (zk0 E5) (by decide))) (by simp)); have n10_ := Aside0.mk (KeepBut.blk hk (zk0 E6) (Ne.symm (IsS72.ne_blk (show IsS72 w _ G1 x369000_4 x369001_4 x369002_4 x369003_4 x369004_4 x369005_4 x369006_4 from by repeat (first | (with_reducible first | exact HI368.out | apply IsS72.alloc | apply IsS72.drewN | apply IsS72.drew | apply IsS72.set_0 | apply IsS72.set_1 | apply IsS72.set_2 | apply IsS72.set_3 | apply IsS72.set_4 | apply IsS72.set_5 | apply IsS72.set_6 | refine IsS72.far ?_ G3.out _ | refine IsS72.far ?_ G4.out _ | refine IsS72.far ?_ G5.out _ | refine IsS72.far ?_ G6.out _ | refine IsS72.far ?_ G7.out _ | refine IsS72.far ?_ G8.out _ | refine IsS72.far ?_ G9.out _ | refine IsS72.far ?_ G2.out _ | refine IsS72.far ?_ V0.out _) | exact HI368.out)) (zk0 E6) (by decide))) (by simp)); have n11_ := Aside0.mk (KeepBut.blk hk (zk0 E7) (Ne.symm (IsS72.ne_blk (show IsS72 w _ G1 x369000_4 x369001_4 x369002_4 x369003_4 x369004_4 x369005_4 x369006_4 from by repeat (first | (with_reducible first | exact HI368.out | apply IsS72.alloc | apply IsS72.drewN | apply IsS72.drew | apply IsS72.set_0 | apply IsS72.set_1 | apply IsS72.set_2 | apply IsS72.set_3 | apply IsS72.set_4 | apply IsS72.set_5 | apply IsS72.set_6 | refine IsS72.far ?_ G3.out _ | refine IsS72.far ?_ G4.out _ | refine IsS72.far ?_ G5.out _ | refine IsS72.far ?_ G6.out _ | refine IsS72.far ?_ G7.out _ | refine IsS72.far ?_ G8.out _ | refine IsS72.far ?_ G9.out _ | refine IsS72.far ?_ G2.out _ | refine IsS72.far ?_ V0.out _) | exact HI368.out)) (zk0 E7) (by decide))) (by simp)); have n12_ := Aside0.mk (KeepBut.blk hk (zk0 G0) (Ne.symm (IsS72.ne_blk (show IsS72 w _ G1 x369000_4 x369001_4 x369002_4 x369003_4 x369004_4 x369005_4 x369006_4 from by repeat (first | (with_reducible first | exact HI368.out | apply IsS72.alloc | apply IsS72.drewN | apply IsS72.drew | apply IsS72.set_0 | apply IsS72.set_1 | apply IsS72.set_2 | apply IsS72.set_3 | apply IsS72.set_4 | apply IsS72.set_5 | apply IsS72.set_6 | refine IsS72.far ?_ G3.out _ | refine IsS72.far ?_ G4.out _ | refine IsS72.far ?_ G5.out _ | refine IsS72.far ?_ G6.out _ | refine IsS72.far ?_ G7.out _ | refine IsS72.far ?_ G8.out _ | refine IsS72.far ?_ G9.out _ | refine IsS72.far ?_ G2.out _ | refine IsS72.far ?_ V0.out _) | exact HI368.out)) (zk0 G0) (by decide))) (by simp)); have n13_ := Aside0.mk (hb); have n14_ := Aside0.mk (hi.1); clear V4; clear V5; clear E0l; clear E8; clear E0; clear E1; clear E2; clear E4; clear E3; clear E5; clear E6; clear E7; clear G0; clear HB; clear V3; clear HI368; have V4 := n0_; have V5 := n1_; have E0l := n2_; have E8 := n3_; have E0 := n4_; have E1 := n5_; have E2 := n6_; have E4 := n7_; have E3 := n8_; have E5 := n9_; have E6 := n10_; have E7 := n11_; have G0 := n12_; have HB := n13_; have V3 := n14_; clear n0_ n1_ n2_ n3_ n4_ n5_ n6_ n7_ n8_ n9_ n10_ n11_ n12_ n13_ n14_; (try clear hb); (try clear hk); (try clear hi)))
          first | go_roundg k4 | ((try subst L1); go_roundg k4)
          case measure => have := HK1.out; have := HK2.out; have := HK3.out; have := HK4.out; omega
          case rel => first | (exact ⟨(wrap64 (x124_4 + 1)), (t389), (t390), (t391), (t392), (t393), (t394), (t395), (by first | rfl | (simp; done) | (simp [*]; done)), H', ⟨by have := HK1.out; have := HK2.out; have := HK3.out; have := HK4.out; omega⟩, ⟨by exact zr0 V4⟩, ⟨by exact zr0 V5⟩, ⟨by exact zr0 E0l⟩, ⟨by exact zr0 E8⟩, ⟨by exact zk0 E0⟩, ⟨by exact zk0 E1⟩, ⟨by exact zk0 E2⟩, ⟨by exact zk0 E4⟩, ⟨by exact zk0 E3⟩, ⟨by exact zk0 E5⟩, ⟨by exact zk0 E6⟩, ⟨by exact zk0 E7⟩, ⟨by exact zk0 G0⟩, ⟨by exact zk0 V3⟩, ⟨by exact zb0 HB⟩⟩) | (exact ⟨(wrap64 (x124_4 + 1)), (t389), (t390), (t391), (t392), (t393), (t394), (t395), (by first | rfl | (simp; done) | (simp [*]; done)), H', ⟨by have := HK1.out; have := HK2.out; have := HK3.out; have := HK4.out; omega⟩, ⟨by exact zr0 V4⟩, ⟨by exact zr0 V5⟩, ⟨by exact zr0 E0l⟩, ⟨by exact zr0 E8⟩, ⟨by exact zk0 E0⟩, ⟨by exact zk0 E1⟩, ⟨by exact zk0 E2⟩, ⟨by exact zk0 E4⟩, ⟨by exact zk0 E3⟩, ⟨by exact zk0 E5⟩, ⟨by exact zk0 E6⟩, ⟨by exact zk0 E7⟩, ⟨by exact zk0 G0⟩, ⟨by exact zk0 V3⟩, ⟨by exact zb0 HB⟩⟩)
end Go.Proofs.Ytnfbabmceddciaa.G
