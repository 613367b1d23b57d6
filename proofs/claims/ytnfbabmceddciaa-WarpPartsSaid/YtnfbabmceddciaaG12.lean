/- Contracts of functions of the program, each as it is called: what it computes (.f), that it computes no less with more rounds (.mono), and that a call returns just that (.calls). No conditions but those that each contract names. Written by a program of this session (wip/gx.py over the kit's print). -/
import Derived.Test.YtnfbabmceddciaaG0
import Derived.Test.YtnfbabmceddciaaG3
import Derived.Test.YtnfbabmceddciaaG8
import Derived.Test.YtnfbabmceddciaaG9
import Derived.Test.YtnfbabmceddciaaG10
import Derived.Test.YtnfbabmceddciaaG11
namespace Go.Proofs.Ytnfbabmceddciaa.G
open Go.RowKit Go.Proofs.YtnfbabmceddciaaW.PrintWords Go.Proofs.YtnfbabmceddciaaW.PrintLast Go.Proofs.YtnfbabmceddciaaW.PrintMore
attribute [local go_sem] max2_int min2_int max_two min_two max_three min_three max_four min_four max_five min_five   -- for this text's walks alone
set_option linter.unusedVariables false
set_option linter.unusedSimpArgs false


/-! ### warp_Draw: function 19 -/
mutual
def warp_Draw.l0 : Nat → Int → Int → Int → Int → List (S48) → Int → Int → Int → Int → Int → Int → Int → Int → Int → List (S28) → Int → Int → Int → Int → Int → Int → List (S48) → Option (Int × Int × (List (S48)) × Int)
 | 0, _, _, _, _, _, _, _, _, _, _, _, _, _, _, _, _, _, _, _, _, _, _ => none
 | k + 1, x4, x19, x340000, x340001, x340002, x341000, x341001, x342000, x342001, x342002, x342003, x343000, x343001, x343002, x343003, x344000, x344001, x344002, x344003, x357000, x357001, x357002 => if x19 < (wrap64 (x344001 + x344003)) then (warp_Draw.l1 k x4 x19 x344000 x340000 x340001 x340002 x341000 x341001 x342000 x342001 x342002 x342003 x343000 x343001 x343002 x343003 x344000 x344001 x344002 x344003 x357000 x357001 x357002) else (some (x357000, x357001, x357002, 0))
def warp_Draw.l1 : Nat → Int → Int → Int → Int → Int → List (S48) → Int → Int → Int → Int → Int → Int → Int → Int → Int → List (S28) → Int → Int → Int → Int → Int → Int → List (S48) → Option (Int × Int × (List (S48)) × Int)
 | 0, _, _, _, _, _, _, _, _, _, _, _, _, _, _, _, _, _, _, _, _, _, _, _ => none
 | k + 1, x4, x19, x20, x340000, x340001, x340002, x341000, x341001, x342000, x342001, x342002, x342003, x343000, x343001, x343002, x343003, x344000, x344001, x344002, x344003, x357000, x357001, x357002 => if x20 < (wrap64 (x344000 + x344002)) then ((warp_at.f k x343000 x343001 x343002 x343003 x20 x19).bind fun bt357 => ((kernel_Taps.f k x4 (wrap64 ((wrap64 ((wrap64 (x20 * 65536)) + 32768)) + bt357.1))).bind fun bt360 => ((kernel_Taps.f k x4 (wrap64 ((wrap64 ((wrap64 (x19 * 65536)) + 32768)) + bt357.2))).bind fun bt364 => (warp_Draw.l2 k x4 x19 x20 bt360.1 bt360.2 bt364.1 bt364.2 (bt364.2.length : Int) 0 x340000 x340001 x340002 x341000 x341001 x342000 x342001 x342002 x342003 x343000 x343001 x343002 x343003 x344000 x344001 x344002 x344003 x357000 x357001 x357002 0 0 0 0 0 0 0)))) else (warp_Draw.l0 k x4 (wrap64 (x19 + 1)) x340000 x340001 x340002 x341000 x341001 x342000 x342001 x342002 x342003 x343000 x343001 x343002 x343003 x344000 x344001 x344002 x344003 x357000 x357001 x357002)
def warp_Draw.l2 : Nat → Int → Int → Int → Int → List Int → Int → List Int → Int → Int → Int → Int → List (S48) → Int → Int → Int → Int → Int → Int → Int → Int → Int → List (S28) → Int → Int → Int → Int → Int → Int → List (S48) → Int → Int → Int → Int → Int → Int → Int → Option (Int × Int × (List (S48)) × Int)
 | 0, _, _, _, _, _, _, _, _, _, _, _, _, _, _, _, _, _, _, _, _, _, _, _, _, _, _, _, _, _, _, _, _, _, _, _, _ => none
 | k + 1, x4, x19, x20, x22, x23, x24, x115, x116, x117, x340000, x340001, x340002, x341000, x341001, x342000, x342001, x342002, x342003, x343000, x343001, x343002, x343003, x344000, x344001, x344002, x344003, x357000, x357001, x357002, x369000, x369001, x369002, x369003, x369004, x369005, x369006 => if x117 < x116 then (if 0 ≤ x117 then (if x117 < (x115.length : Int) then (warp_Draw.l3 k x4 x19 x20 x22 x23 x24 x117 (rd x115 x117) x115 x116 x117 x23 (x23.length : Int) 0 x340000 x340001 x340002 x341000 x341001 x342000 x342001 x342002 x342003 x343000 x343001 x343002 x343003 x344000 x344001 x344002 x344003 x357000 x357001 x357002 x369000 x369001 x369002 x369003 x369004 x369005 x369006) else (none)) else (none)) else ((warp_sums_pixel.f k x369000 x369001 x369002 x369003 x369004 x369005 x369006 4294967296).bind fun bt369 => (if x357002.length < 4398046511104 then (warp_Draw.l1 k x4 x19 (wrap64 (x20 + 1)) x340000 x340001 x340002 x341000 x341001 x342000 x342001 x342002 x342003 x343000 x343001 x343002 x343003 x344000 x344001 x344002 x344003 x357000 x357001 (x357002 ++ [(⟨bt369.1, bt369.2.1, bt369.2.2.1, bt369.2.2.2.1⟩ : S48)])) else (none)))
def warp_Draw.l3 : Nat → Int → Int → Int → Int → List Int → Int → Int → Int → List Int → Int → Int → List Int → Int → Int → Int → Int → List (S48) → Int → Int → Int → Int → Int → Int → Int → Int → Int → List (S28) → Int → Int → Int → Int → Int → Int → List (S48) → Int → Int → Int → Int → Int → Int → Int → Option (Int × Int × (List (S48)) × Int)
 | 0, _, _, _, _, _, _, _, _, _, _, _, _, _, _, _, _, _, _, _, _, _, _, _, _, _, _, _, _, _, _, _, _, _, _, _, _, _, _, _, _, _ => none
 | k + 1, x4, x19, x20, x22, x23, x24, x27, x28, x115, x116, x117, x122, x123, x124, x340000, x340001, x340002, x341000, x341001, x342000, x342001, x342002, x342003, x343000, x343001, x343002, x343003, x344000, x344001, x344002, x344003, x357000, x357001, x357002, x369000, x369001, x369002, x369003, x369004, x369005, x369006 => if x124 < x123 then (if 0 ≤ x124 then (if x124 < (x122.length : Int) then ((warp_Draw_1.f (wrap64 (x22 + x124)) (wrap64 (x24 + x27)) x342000 x342001 x342002 x342003 x341000 x341001 x340000 x340001 x340002).bind fun bt385 => ((warp_sums_add.f x369000 x369001 x369002 x369003 x369004 x369005 x369006 bt385.1 bt385.2.1 bt385.2.2.1 bt385.2.2.2 (wrap64 ((rd x122 x124) * x28))).bind fun bt389 => (warp_Draw.l3 k x4 x19 x20 x22 x23 x24 x27 x28 x115 x116 x117 x122 x123 (wrap64 (x124 + 1)) x340000 x340001 x340002 x341000 x341001 x342000 x342001 x342002 x342003 x343000 x343001 x343002 x343003 x344000 x344001 x344002 x344003 x357000 x357001 x357002 bt389.1 bt389.2.1 bt389.2.2.1 bt389.2.2.2.1 bt389.2.2.2.2.1 bt389.2.2.2.2.2.1 bt389.2.2.2.2.2.2))) else (none)) else (none)) else (warp_Draw.l2 k x4 x19 x20 x22 x23 x24 x115 x116 (wrap64 (x117 + 1)) x340000 x340001 x340002 x341000 x341001 x342000 x342001 x342002 x342003 x343000 x343001 x343002 x343003 x344000 x344001 x344002 x344003 x357000 x357001 x357002 x369000 x369001 x369002 x369003 x369004 x369005 x369006)
end
def warp_Draw.f (k : Nat) (a0_0 : Int) (a0_1 : Int) (l0_2 : List (S48)) (a1_0 : Int) (a1_1 : Int) (a2_0 : Int) (a2_1 : Int) (a2_2 : Int) (a2_3 : Int) (a3_0 : Int) (a3_1 : Int) (a3_2 : Int) (l3_3 : List (S28)) (a4 : Int) (a5_0 : Int) (a5_1 : Int) (a5_2 : Int) (a5_3 : Int) : Option (Int × Int × (List (S48)) × Int) := (raster_Check.f k a0_0 a0_1 l0_2).bind fun t345 => (if t345 = 0 then ((warp_Needs.f k a3_0 a3_1 a3_2 l3_3 a4 a5_0 a5_1 a5_2 a5_3 a2_0 a2_1 a2_2 a2_3).bind fun bt346 => (if bt346.2.2.2.2 = 0 then ((warp_covers.f a0_0 a0_1 l0_2 a1_0 a1_1 bt346.1 bt346.2.1 bt346.2.2.1 bt346.2.2.2.1).bind fun t352 => (if t352 = true then (if 0 ≤ (wrap64 (a5_2 * a5_3)) then (if (wrap64 (a5_2 * a5_3) : Int).toNat ≤ 8796093022208 then (warp_Draw.l0 k a4 a5_1 a0_0 a0_1 l0_2 a1_0 a1_1 a2_0 a2_1 a2_2 a2_3 a3_0 a3_1 a3_2 l3_3 a5_0 a5_1 a5_2 a5_3 a5_2 a5_3 (([] : List (S48)))) else (none)) else (none)) else (some (0, 0, ([] : List (S48)), 15)))) else (some (0, 0, ([] : List (S48)), bt346.2.2.2.2)))) else (some (0, 0, ([] : List (S48)), t345)))
theorem warp_Draw.mono_l : ∀ k, (∀ y0 y1 y2 y3 y4 y5 y6 y7 y8 y9 y10 y11 y12 y13 y14 y15 y16 y17 y18 y19 y20 y21, LeO (warp_Draw.l0 k y0 y1 y2 y3 y4 y5 y6 y7 y8 y9 y10 y11 y12 y13 y14 y15 y16 y17 y18 y19 y20 y21) (warp_Draw.l0 (k + 1) y0 y1 y2 y3 y4 y5 y6 y7 y8 y9 y10 y11 y12 y13 y14 y15 y16 y17 y18 y19 y20 y21)) ∧ (∀ y0 y1 y2 y3 y4 y5 y6 y7 y8 y9 y10 y11 y12 y13 y14 y15 y16 y17 y18 y19 y20 y21 y22, LeO (warp_Draw.l1 k y0 y1 y2 y3 y4 y5 y6 y7 y8 y9 y10 y11 y12 y13 y14 y15 y16 y17 y18 y19 y20 y21 y22) (warp_Draw.l1 (k + 1) y0 y1 y2 y3 y4 y5 y6 y7 y8 y9 y10 y11 y12 y13 y14 y15 y16 y17 y18 y19 y20 y21 y22)) ∧ (∀ y0 y1 y2 y3 y4 y5 y6 y7 y8 y9 y10 y11 y12 y13 y14 y15 y16 y17 y18 y19 y20 y21 y22 y23 y24 y25 y26 y27 y28 y29 y30 y31 y32 y33 y34 y35, LeO (warp_Draw.l2 k y0 y1 y2 y3 y4 y5 y6 y7 y8 y9 y10 y11 y12 y13 y14 y15 y16 y17 y18 y19 y20 y21 y22 y23 y24 y25 y26 y27 y28 y29 y30 y31 y32 y33 y34 y35) (warp_Draw.l2 (k + 1) y0 y1 y2 y3 y4 y5 y6 y7 y8 y9 y10 y11 y12 y13 y14 y15 y16 y17 y18 y19 y20 y21 y22 y23 y24 y25 y26 y27 y28 y29 y30 y31 y32 y33 y34 y35)) ∧ (∀ y0 y1 y2 y3 y4 y5 y6 y7 y8 y9 y10 y11 y12 y13 y14 y15 y16 y17 y18 y19 y20 y21 y22 y23 y24 y25 y26 y27 y28 y29 y30 y31 y32 y33 y34 y35 y36 y37 y38 y39 y40, LeO (warp_Draw.l3 k y0 y1 y2 y3 y4 y5 y6 y7 y8 y9 y10 y11 y12 y13 y14 y15 y16 y17 y18 y19 y20 y21 y22 y23 y24 y25 y26 y27 y28 y29 y30 y31 y32 y33 y34 y35 y36 y37 y38 y39 y40) (warp_Draw.l3 (k + 1) y0 y1 y2 y3 y4 y5 y6 y7 y8 y9 y10 y11 y12 y13 y14 y15 y16 y17 y18 y19 y20 y21 y22 y23 y24 y25 y26 y27 y28 y29 y30 y31 y32 y33 y34 y35 y36 y37 y38 y39 y40))
 | 0 => ⟨fun _ _ _ _ _ _ _ _ _ _ _ _ _ _ _ _ _ _ _ _ _ _ r h => by simp [warp_Draw.l0] at h, fun _ _ _ _ _ _ _ _ _ _ _ _ _ _ _ _ _ _ _ _ _ _ _ r h => by simp [warp_Draw.l1] at h, fun _ _ _ _ _ _ _ _ _ _ _ _ _ _ _ _ _ _ _ _ _ _ _ _ _ _ _ _ _ _ _ _ _ _ _ _ r h => by simp [warp_Draw.l2] at h, fun _ _ _ _ _ _ _ _ _ _ _ _ _ _ _ _ _ _ _ _ _ _ _ _ _ _ _ _ _ _ _ _ _ _ _ _ _ _ _ _ _ r h => by simp [warp_Draw.l3] at h⟩
 | k + 1 => by
  obtain ⟨ih0, ih1, ih2, ih3⟩ := warp_Draw.mono_l k
  refine ⟨?_, ?_, ?_, ?_⟩
  ·intro y0 y1 y2 y3 y4 y5 y6 y7 y8 y9 y10 y11 y12 y13 y14 y15 y16 y17 y18 y19 y20 y21
   unfold warp_Draw.l0
   repeat' first
   | (with_reducible exact ih0 _ _ _ _ _ _ _ _ _ _ _ _ _ _ _ _ _ _ _ _ _ _)
   | (with_reducible exact ih1 _ _ _ _ _ _ _ _ _ _ _ _ _ _ _ _ _ _ _ _ _ _ _)
   | (with_reducible exact ih2 _ _ _ _ _ _ _ _ _ _ _ _ _ _ _ _ _ _ _ _ _ _ _ _ _ _ _ _ _ _ _ _ _ _ _ _)
   | (with_reducible exact ih3 _ _ _ _ _ _ _ _ _ _ _ _ _ _ _ _ _ _ _ _ _ _ _ _ _ _ _ _ _ _ _ _ _ _ _ _ _ _ _ _ _)
   | (with_reducible exact kernel_Taps.mono _ _ _)
   | (with_reducible exact raster_Check.mono _ _ _ _)
   | (with_reducible exact warp_Needs.mono _ _ _ _ _ _ _ _ _ _ _ _ _ _)
   | (with_reducible exact warp_at.mono _ _ _ _ _ _ _)
   | (with_reducible exact warp_sums_pixel.mono _ _ _ _ _ _ _ _ _)
   | (with_reducible exact LeO.refl _)
   | (with_reducible exact LeO.none _)
   | (with_reducible refine LeO.ite ?_ ?_)
   | (with_reducible refine LeO.bind ?_ (fun _ => ?_))
   | exact ih0 _ _ _ _ _ _ _ _ _ _ _ _ _ _ _ _ _ _ _ _ _ _
   | exact ih1 _ _ _ _ _ _ _ _ _ _ _ _ _ _ _ _ _ _ _ _ _ _ _
   | exact ih2 _ _ _ _ _ _ _ _ _ _ _ _ _ _ _ _ _ _ _ _ _ _ _ _ _ _ _ _ _ _ _ _ _ _ _ _
   | exact ih3 _ _ _ _ _ _ _ _ _ _ _ _ _ _ _ _ _ _ _ _ _ _ _ _ _ _ _ _ _ _ _ _ _ _ _ _ _ _ _ _ _
   | exact kernel_Taps.mono _ _ _
   | exact raster_Check.mono _ _ _ _
   | exact warp_Needs.mono _ _ _ _ _ _ _ _ _ _ _ _ _ _
   | exact warp_at.mono _ _ _ _ _ _ _
   | exact warp_sums_pixel.mono _ _ _ _ _ _ _ _ _
   | exact LeO.none _
   | refine LeO.ite ?_ ?_
   | refine LeO.bind ?_ (fun _ => ?_)
  ·intro y0 y1 y2 y3 y4 y5 y6 y7 y8 y9 y10 y11 y12 y13 y14 y15 y16 y17 y18 y19 y20 y21 y22
   unfold warp_Draw.l1
   repeat' first
   | (with_reducible exact ih0 _ _ _ _ _ _ _ _ _ _ _ _ _ _ _ _ _ _ _ _ _ _)
   | (with_reducible exact ih1 _ _ _ _ _ _ _ _ _ _ _ _ _ _ _ _ _ _ _ _ _ _ _)
   | (with_reducible exact ih2 _ _ _ _ _ _ _ _ _ _ _ _ _ _ _ _ _ _ _ _ _ _ _ _ _ _ _ _ _ _ _ _ _ _ _ _)
   | (with_reducible exact ih3 _ _ _ _ _ _ _ _ _ _ _ _ _ _ _ _ _ _ _ _ _ _ _ _ _ _ _ _ _ _ _ _ _ _ _ _ _ _ _ _ _)
   | (with_reducible exact kernel_Taps.mono _ _ _)
   | (with_reducible exact raster_Check.mono _ _ _ _)
   | (with_reducible exact warp_Needs.mono _ _ _ _ _ _ _ _ _ _ _ _ _ _)
   | (with_reducible exact warp_at.mono _ _ _ _ _ _ _)
   | (with_reducible exact warp_sums_pixel.mono _ _ _ _ _ _ _ _ _)
   | (with_reducible exact LeO.refl _)
   | (with_reducible exact LeO.none _)
   | (with_reducible refine LeO.ite ?_ ?_)
   | (with_reducible refine LeO.bind ?_ (fun _ => ?_))
   | exact ih0 _ _ _ _ _ _ _ _ _ _ _ _ _ _ _ _ _ _ _ _ _ _
   | exact ih1 _ _ _ _ _ _ _ _ _ _ _ _ _ _ _ _ _ _ _ _ _ _ _
   | exact ih2 _ _ _ _ _ _ _ _ _ _ _ _ _ _ _ _ _ _ _ _ _ _ _ _ _ _ _ _ _ _ _ _ _ _ _ _
   | exact ih3 _ _ _ _ _ _ _ _ _ _ _ _ _ _ _ _ _ _ _ _ _ _ _ _ _ _ _ _ _ _ _ _ _ _ _ _ _ _ _ _ _
   | exact kernel_Taps.mono _ _ _
   | exact raster_Check.mono _ _ _ _
   | exact warp_Needs.mono _ _ _ _ _ _ _ _ _ _ _ _ _ _
   | exact warp_at.mono _ _ _ _ _ _ _
   | exact warp_sums_pixel.mono _ _ _ _ _ _ _ _ _
   | exact LeO.none _
   | refine LeO.ite ?_ ?_
   | refine LeO.bind ?_ (fun _ => ?_)
  ·intro y0 y1 y2 y3 y4 y5 y6 y7 y8 y9 y10 y11 y12 y13 y14 y15 y16 y17 y18 y19 y20 y21 y22 y23 y24 y25 y26 y27 y28 y29 y30 y31 y32 y33 y34 y35
   unfold warp_Draw.l2
   repeat' first
   | (with_reducible exact ih0 _ _ _ _ _ _ _ _ _ _ _ _ _ _ _ _ _ _ _ _ _ _)
   | (with_reducible exact ih1 _ _ _ _ _ _ _ _ _ _ _ _ _ _ _ _ _ _ _ _ _ _ _)
   | (with_reducible exact ih2 _ _ _ _ _ _ _ _ _ _ _ _ _ _ _ _ _ _ _ _ _ _ _ _ _ _ _ _ _ _ _ _ _ _ _ _)
   | (with_reducible exact ih3 _ _ _ _ _ _ _ _ _ _ _ _ _ _ _ _ _ _ _ _ _ _ _ _ _ _ _ _ _ _ _ _ _ _ _ _ _ _ _ _ _)
   | (with_reducible exact kernel_Taps.mono _ _ _)
   | (with_reducible exact raster_Check.mono _ _ _ _)
   | (with_reducible exact warp_Needs.mono _ _ _ _ _ _ _ _ _ _ _ _ _ _)
   | (with_reducible exact warp_at.mono _ _ _ _ _ _ _)
   | (with_reducible exact warp_sums_pixel.mono _ _ _ _ _ _ _ _ _)
   | (with_reducible exact LeO.refl _)
   | (with_reducible exact LeO.none _)
   | (with_reducible refine LeO.ite ?_ ?_)
   | (with_reducible refine LeO.bind ?_ (fun _ => ?_))
   | exact ih0 _ _ _ _ _ _ _ _ _ _ _ _ _ _ _ _ _ _ _ _ _ _
   | exact ih1 _ _ _ _ _ _ _ _ _ _ _ _ _ _ _ _ _ _ _ _ _ _ _
   | exact ih2 _ _ _ _ _ _ _ _ _ _ _ _ _ _ _ _ _ _ _ _ _ _ _ _ _ _ _ _ _ _ _ _ _ _ _ _
   | exact ih3 _ _ _ _ _ _ _ _ _ _ _ _ _ _ _ _ _ _ _ _ _ _ _ _ _ _ _ _ _ _ _ _ _ _ _ _ _ _ _ _ _
   | exact kernel_Taps.mono _ _ _
   | exact raster_Check.mono _ _ _ _
   | exact warp_Needs.mono _ _ _ _ _ _ _ _ _ _ _ _ _ _
   | exact warp_at.mono _ _ _ _ _ _ _
   | exact warp_sums_pixel.mono _ _ _ _ _ _ _ _ _
   | exact LeO.none _
   | refine LeO.ite ?_ ?_
   | refine LeO.bind ?_ (fun _ => ?_)
  ·intro y0 y1 y2 y3 y4 y5 y6 y7 y8 y9 y10 y11 y12 y13 y14 y15 y16 y17 y18 y19 y20 y21 y22 y23 y24 y25 y26 y27 y28 y29 y30 y31 y32 y33 y34 y35 y36 y37 y38 y39 y40
   unfold warp_Draw.l3
   repeat' first
   | (with_reducible exact ih0 _ _ _ _ _ _ _ _ _ _ _ _ _ _ _ _ _ _ _ _ _ _)
   | (with_reducible exact ih1 _ _ _ _ _ _ _ _ _ _ _ _ _ _ _ _ _ _ _ _ _ _ _)
   | (with_reducible exact ih2 _ _ _ _ _ _ _ _ _ _ _ _ _ _ _ _ _ _ _ _ _ _ _ _ _ _ _ _ _ _ _ _ _ _ _ _)
   | (with_reducible exact ih3 _ _ _ _ _ _ _ _ _ _ _ _ _ _ _ _ _ _ _ _ _ _ _ _ _ _ _ _ _ _ _ _ _ _ _ _ _ _ _ _ _)
   | (with_reducible exact kernel_Taps.mono _ _ _)
   | (with_reducible exact raster_Check.mono _ _ _ _)
   | (with_reducible exact warp_Needs.mono _ _ _ _ _ _ _ _ _ _ _ _ _ _)
   | (with_reducible exact warp_at.mono _ _ _ _ _ _ _)
   | (with_reducible exact warp_sums_pixel.mono _ _ _ _ _ _ _ _ _)
   | (with_reducible exact LeO.refl _)
   | (with_reducible exact LeO.none _)
   | (with_reducible refine LeO.ite ?_ ?_)
   | (with_reducible refine LeO.bind ?_ (fun _ => ?_))
   | exact ih0 _ _ _ _ _ _ _ _ _ _ _ _ _ _ _ _ _ _ _ _ _ _
   | exact ih1 _ _ _ _ _ _ _ _ _ _ _ _ _ _ _ _ _ _ _ _ _ _ _
   | exact ih2 _ _ _ _ _ _ _ _ _ _ _ _ _ _ _ _ _ _ _ _ _ _ _ _ _ _ _ _ _ _ _ _ _ _ _ _
   | exact ih3 _ _ _ _ _ _ _ _ _ _ _ _ _ _ _ _ _ _ _ _ _ _ _ _ _ _ _ _ _ _ _ _ _ _ _ _ _ _ _ _ _
   | exact kernel_Taps.mono _ _ _
   | exact raster_Check.mono _ _ _ _
   | exact warp_Needs.mono _ _ _ _ _ _ _ _ _ _ _ _ _ _
   | exact warp_at.mono _ _ _ _ _ _ _
   | exact warp_sums_pixel.mono _ _ _ _ _ _ _ _ _
   | exact LeO.none _
   | refine LeO.ite ?_ ?_
   | refine LeO.bind ?_ (fun _ => ?_)
theorem warp_Draw.mono : ∀ a0 a1 a2 a3 a4 a5 a6 a7 a8 a9 a10 a11 a12 a13 a14 a15 a16 a17 k, LeO (warp_Draw.f k a0 a1 a2 a3 a4 a5 a6 a7 a8 a9 a10 a11 a12 a13 a14 a15 a16 a17) (warp_Draw.f (k + 1) a0 a1 a2 a3 a4 a5 a6 a7 a8 a9 a10 a11 a12 a13 a14 a15 a16 a17) := by
 intro a0 a1 a2 a3 a4 a5 a6 a7 a8 a9 a10 a11 a12 a13 a14 a15 a16 a17 k
 obtain ⟨ih0, ih1, ih2, ih3⟩ := warp_Draw.mono_l k
 unfold warp_Draw.f
 repeat' first
   | (with_reducible exact ih0 _ _ _ _ _ _ _ _ _ _ _ _ _ _ _ _ _ _ _ _ _ _)
   | (with_reducible exact ih1 _ _ _ _ _ _ _ _ _ _ _ _ _ _ _ _ _ _ _ _ _ _ _)
   | (with_reducible exact ih2 _ _ _ _ _ _ _ _ _ _ _ _ _ _ _ _ _ _ _ _ _ _ _ _ _ _ _ _ _ _ _ _ _ _ _ _)
   | (with_reducible exact ih3 _ _ _ _ _ _ _ _ _ _ _ _ _ _ _ _ _ _ _ _ _ _ _ _ _ _ _ _ _ _ _ _ _ _ _ _ _ _ _ _ _)
   | (with_reducible exact kernel_Taps.mono _ _ _)
   | (with_reducible exact raster_Check.mono _ _ _ _)
   | (with_reducible exact warp_Needs.mono _ _ _ _ _ _ _ _ _ _ _ _ _ _)
   | (with_reducible exact warp_at.mono _ _ _ _ _ _ _)
   | (with_reducible exact warp_sums_pixel.mono _ _ _ _ _ _ _ _ _)
   | (with_reducible exact LeO.refl _)
   | (with_reducible exact LeO.none _)
   | (with_reducible refine LeO.ite ?_ ?_)
   | (with_reducible refine LeO.bind ?_ (fun _ => ?_))
   | exact ih0 _ _ _ _ _ _ _ _ _ _ _ _ _ _ _ _ _ _ _ _ _ _
   | exact ih1 _ _ _ _ _ _ _ _ _ _ _ _ _ _ _ _ _ _ _ _ _ _ _
   | exact ih2 _ _ _ _ _ _ _ _ _ _ _ _ _ _ _ _ _ _ _ _ _ _ _ _ _ _ _ _ _ _ _ _ _ _ _ _
   | exact ih3 _ _ _ _ _ _ _ _ _ _ _ _ _ _ _ _ _ _ _ _ _ _ _ _ _ _ _ _ _ _ _ _ _ _ _ _ _ _ _ _ _
   | exact kernel_Taps.mono _ _ _
   | exact raster_Check.mono _ _ _ _
   | exact warp_Needs.mono _ _ _ _ _ _ _ _ _ _ _ _ _ _
   | exact warp_at.mono _ _ _ _ _ _ _
   | exact warp_sums_pixel.mono _ _ _ _ _ _ _ _ _
   | exact LeO.none _
   | refine LeO.ite ?_ ?_
   | refine LeO.bind ?_ (fun _ => ?_)
def warp_Draw.T10 : Bool × List (List Nat × List Nat) := (true, [([], []), ([0], [0]), ([], []), ([2], [2]), ([], []), ([4], [4]), ([], []), ([6], [6]), ([5, 7], [5, 7]), ([8], [8]), ([1, 3, 9], [1, 3, 9]), ([], []), ([11, 10, 0, 1, 2, 3, 4, 5, 6, 7, 8, 9, 10, 11], [10, 11])])
def warp_Draw.B10 : List Nat := [0, 1, 0, 4, 0, 16, 0, 64, 240, 496, 1023, 0, 4095]
theorem warp_Draw.tab10 : rtab .any (opsOf Try.f19 10) = warp_Draw.T10 := by kernel_rfl
theorem warp_Draw.bits10 : waitsOk warp_Draw.T10.2 warp_Draw.B10 = true := by kernel_rfl
set_option maxHeartbeats 8000000 in
set_option maxRecDepth 100000 in
theorem warp_Draw.calls (k : Nat) (a0_0 : Int) (a0_1 : Int) (A0_2 : Option Addr) (c0_2 : Nat) (l0_2 : List (S48)) (a1_0 : Int) (a1_1 : Int) (a2_0 : Int) (a2_1 : Int) (a2_2 : Int) (a2_3 : Int) (a3_0 : Int) (a3_1 : Int) (a3_2 : Int) (A3_3 : Option Addr) (c3_3 : Nat) (l3_3 : List (S28)) (a4 : Int) (a5_0 : Int) (a5_1 : Int) (a5_2 : Int) (a5_3 : Int) (r1 : Int) (r2 : Int) (r3 : List (S48)) (r4 : Int) (w : World) (hr0_2 : Kd.C k48 w A0_2 l0_2.length l0_2) (hc0_2 : l0_2.length ≤ c0_2) (hr3_3 : Kd.C k28 w A3_3 l3_3.length l3_3) (hc3_3 : l3_3.length ≤ c3_3) (h : warp_Draw.f k a0_0 a0_1 l0_2 a1_0 a1_1 a2_0 a2_1 a2_2 a2_3 a3_0 a3_1 a3_2 l3_3 a4 a5_0 a5_1 a5_2 a5_3 = some (r1, r2, r3, r4)) :
  Calls Try.prog 19 #[.agg #[.int .i64 a0_0, .int .i64 a0_1, .slice A0_2 l0_2.length c0_2], .agg #[.int .i64 a1_0, .int .i64 a1_1], .agg #[.int .i64 a2_0, .int .i64 a2_1, .int .i64 a2_2, .int .i64 a2_3], .agg #[.int .i64 a3_0, .int .i64 a3_1, .int .i64 a3_2, .slice A3_3 l3_3.length c3_3], .int .i64 a4, .agg #[.int .i64 a5_0, .int .i64 a5_1, .int .i64 a5_2, .int .i64 a5_3]] w fun e w' => ∃ v2_ : Value, e = .returned (.tuple #[.agg #[.int .i64 r1, .int .i64 r2, v2_], .int .i64 r4]) ∧ Kd.R k48 48 w' w.heap.size (fun _ => True) v2_ r3 ∧ Below w.heap.size w w' := by
 have hu40 := Try.underlying40
 have hu28 := Try.underlying28
 have hu34 := Try.underlying34
 have hu24 := Try.underlying24
 have hu72 := Try.underlying72
 have HR0_2 := Aside0.mk hr0_2
 have HC0_2 := Aside0.mk hc0_2
 clear hr0_2 hc0_2
 have HR3_3 := Aside0.mk hr3_3
 have HC3_3 := Aside0.mk hc3_3
 clear hr3_3 hc3_3
 have HB := Aside0.mk (Below.refl w.heap.size w)
 have H : ((raster_Check.f k a0_0 a0_1 l0_2).bind fun t345 => (if t345 = 0 then ((warp_Needs.f k a3_0 a3_1 a3_2 l3_3 a4 a5_0 a5_1 a5_2 a5_3 a2_0 a2_1 a2_2 a2_3).bind fun bt346 => (if bt346.2.2.2.2 = 0 then ((warp_covers.f a0_0 a0_1 l0_2 a1_0 a1_1 bt346.1 bt346.2.1 bt346.2.2.1 bt346.2.2.2.1).bind fun t352 => (if t352 = true then (if 0 ≤ (wrap64 (a5_2 * a5_3)) then (if (wrap64 (a5_2 * a5_3) : Int).toNat ≤ 8796093022208 then (warp_Draw.l0 k a4 a5_1 a0_0 a0_1 l0_2 a1_0 a1_1 a2_0 a2_1 a2_2 a2_3 a3_0 a3_1 a3_2 l3_3 a5_0 a5_1 a5_2 a5_3 a5_2 a5_3 (([] : List (S48)))) else (none)) else (none)) else (some (0, 0, ([] : List (S48)), 15)))) else (some (0, 0, ([] : List (S48)), bt346.2.2.2.2)))) else (some (0, 0, ([] : List (S48)), t345)))) = some (r1, r2, r3, r4) := h
 clear h
 replace H := Option.bind_eq_some_iff.mp H
 obtain ⟨t345, A70, H⟩ := H
 replace H : (if t345 = 0 then ((warp_Needs.f k a3_0 a3_1 a3_2 l3_3 a4 a5_0 a5_1 a5_2 a5_3 a2_0 a2_1 a2_2 a2_3).bind fun bt346 => (if bt346.2.2.2.2 = 0 then ((warp_covers.f a0_0 a0_1 l0_2 a1_0 a1_1 bt346.1 bt346.2.1 bt346.2.2.1 bt346.2.2.2.1).bind fun t352 => (if t352 = true then (if 0 ≤ (wrap64 (a5_2 * a5_3)) then (if (wrap64 (a5_2 * a5_3) : Int).toNat ≤ 8796093022208 then (warp_Draw.l0 k a4 a5_1 a0_0 a0_1 l0_2 a1_0 a1_1 a2_0 a2_1 a2_2 a2_3 a3_0 a3_1 a3_2 l3_3 a5_0 a5_1 a5_2 a5_3 a5_2 a5_3 (([] : List (S48)))) else (none)) else (none)) else (some (0, 0, ([] : List (S48)), 15)))) else (some (0, 0, ([] : List (S48)), bt346.2.2.2.2)))) else (some (0, 0, ([] : List (S48)), t345))) = some (r1, r2, r3, r4) := H
 have A7 := Aside0.mk A70
 clear A70
 by_cases c8 : t345 = 0
 ·rw [if_pos c8] at H
  have c8b0 : (t345 == 0) = true := beq_iff_eq.mpr c8
  have c8b1 : (t345 != 0) = false := bne_eq_false_iff_eq.mpr c8
  clear c8
  replace H := Option.bind_eq_some_iff.mp H
  obtain ⟨⟨t346, t347, t348, t349, t350⟩, A90, H⟩ := H
  replace H : (if t350 = 0 then ((warp_covers.f a0_0 a0_1 l0_2 a1_0 a1_1 t346 t347 t348 t349).bind fun t352 => (if t352 = true then (if 0 ≤ (wrap64 (a5_2 * a5_3)) then (if (wrap64 (a5_2 * a5_3) : Int).toNat ≤ 8796093022208 then (warp_Draw.l0 k a4 a5_1 a0_0 a0_1 l0_2 a1_0 a1_1 a2_0 a2_1 a2_2 a2_3 a3_0 a3_1 a3_2 l3_3 a5_0 a5_1 a5_2 a5_3 a5_2 a5_3 (([] : List (S48)))) else (none)) else (none)) else (some (0, 0, ([] : List (S48)), 15)))) else (some (0, 0, ([] : List (S48)), t350))) = some (r1, r2, r3, r4) := H
  have A9 := Aside0.mk A90
  clear A90
  by_cases c10 : t350 = 0
  ·rw [if_pos c10] at H
   have c10b0 : (t350 == 0) = true := beq_iff_eq.mpr c10
   have c10b1 : (t350 != 0) = false := bne_eq_false_iff_eq.mpr c10
   clear c10
   replace H := Option.bind_eq_some_iff.mp H
   obtain ⟨t352, A110, H⟩ := H
   replace H : (if t352 = true then (if 0 ≤ (wrap64 (a5_2 * a5_3)) then (if (wrap64 (a5_2 * a5_3) : Int).toNat ≤ 8796093022208 then (warp_Draw.l0 k a4 a5_1 a0_0 a0_1 l0_2 a1_0 a1_1 a2_0 a2_1 a2_2 a2_3 a3_0 a3_1 a3_2 l3_3 a5_0 a5_1 a5_2 a5_3 a5_2 a5_3 (([] : List (S48)))) else (none)) else (none)) else (some (0, 0, ([] : List (S48)), 15))) = some (r1, r2, r3, r4) := H
   have A11 := Aside0.mk A110
   clear A110
   by_cases c12 : t352 = true
   ·subst c12
    have H1 : (if 0 ≤ (wrap64 (a5_2 * a5_3)) then (if (wrap64 (a5_2 * a5_3) : Int).toNat ≤ 8796093022208 then (warp_Draw.l0 k a4 a5_1 a0_0 a0_1 l0_2 a1_0 a1_1 a2_0 a2_1 a2_2 a2_3 a3_0 a3_1 a3_2 l3_3 a5_0 a5_1 a5_2 a5_3 a5_2 a5_3 (([] : List (S48)))) else (none)) else (none)) = some (r1, r2, r3, r4) := by rw [if_pos rfl] at H; exact H
    clear H
    have H := H1
    clear H1
    obtain ⟨ji13, hji13⟩ : ∃ j_ : Int, (wrap64 (a5_2 * a5_3)) = j_ := ⟨_, rfl⟩
    replace H : (if 0 ≤ (ji13) then (if (ji13 : Int).toNat ≤ 8796093022208 then (warp_Draw.l0 k a4 a5_1 a0_0 a0_1 l0_2 a1_0 a1_1 a2_0 a2_1 a2_2 a2_3 a3_0 a3_1 a3_2 l3_3 a5_0 a5_1 a5_2 a5_3 a5_2 a5_3 (([] : List (S48)))) else (none)) else (none)) = some (r1, r2, r3, r4) := by first | (rw [hji13] at H; exact H) | (simp only [hji13] at H ⊢; exact H)
    (try rw [hji13] at A7)
    (try rw [hji13] at A9)
    (try rw [hji13] at A11)
    have hji13w : (IntKind.i64.wrap (a5_2 * a5_3)) = ji13 := (i64_w _).trans hji13
    by_cases c14 : 0 ≤ (ji13)
    ·rw [if_pos c14] at H
     have c14b0 := eq_true c14
     have c14b1 : decide (0 ≤ (ji13)) = true := decide_eq_true c14
     clear c14
     by_cases c15 : (ji13 : Int).toNat ≤ 8796093022208
     ·rw [if_pos c15] at H
      have c15b0 := eq_true c15
      have c15b1 : decide ((ji13 : Int).toNat ≤ 8796093022208) = true := decide_eq_true c15
      clear c15
      obtain ⟨y353, hy353⟩ : ∃ y_ : List (S48), y_ = (([] : List (S48))) := ⟨_, rfl⟩
      replace H : (warp_Draw.l0 k a4 a5_1 a0_0 a0_1 l0_2 a1_0 a1_1 a2_0 a2_1 a2_2 a2_3 a3_0 a3_1 a3_2 l3_3 a5_0 a5_1 a5_2 a5_3 a5_2 a5_3 y353) = some (r1, r2, r3, r4) := by first | (rw [hy353]; with_reducible exact H) | (have H2_ := (Option.bind_some _ _).symm.trans H; rw [hy353]; with_reducible exact H2_) | (have H2_ := (Option.bind_some _ _).symm.trans H; with_reducible exact H2_) | with_reducible exact H | (rw [hy353]; exact H) | exact H
      have Ny353 := Aside0.mk hy353
      clear hy353
      have H' := Aside0.mk H
      clear H
      go_enter Try.func19, Try.ntmps19
      try go_wp2_with (first | ((with_reducible refine gate_dst (N := 6) rfl ?_); refine box_event ?hg (N := 6) ?hd (cs := #[.int .i64 a0_0, .int .i64 a0_1, .slice A0_2 l0_2.length c0_2]) (t := 40) ?hr ?_; (case hd => rfl); (case hg => rfl); (case hr => first | (go_simp; done) | (go_simp; rfl)); intro gb339 hg w16 hbox hb; have GW339 := zg HB hg; have GE339 := zg HB hg; have n0_ := Aside0.mk (hbox); replace HB := zb HB hb; have BK339 := n0_; clear n0_; clear hb hbox hg) | ((with_reducible refine gate_dst (N := 7) rfl ?_); refine box_event ?hg (N := 7) ?hd (cs := #[.int .i64 a1_0, .int .i64 a1_1]) (t := 28) ?hr ?_; (case hd => rfl); (case hg => rfl); (case hr => first | (go_simp; done) | (go_simp; rfl)); intro gb340 hg w17 hbox hb; have GW340 := zg HB hg; have GE340 := zg HB hg; have NB339_340 := zn BK339 hg; have NB340_339 := zn' BK339 hg; have n0_ := Aside0.mk (hbox); replace BK339 := zk BK339 hb; replace HB := zb HB hb; have BK340 := n0_; clear n0_; clear hb hbox hg) | ((with_reducible refine gate_dst (N := 8) rfl ?_); refine box_event ?hg (N := 8) ?hd (cs := #[.int .i64 a2_0, .int .i64 a2_1, .int .i64 a2_2, .int .i64 a2_3]) (t := 34) ?hr ?_; (case hd => rfl); (case hg => rfl); (case hr => first | (go_simp; done) | (go_simp; rfl)); intro gb341 hg w18 hbox hb; have GW341 := zg HB hg; have GE341 := zg HB hg; have NB339_341 := zn BK339 hg; have NB341_339 := zn' BK339 hg; have NB340_341 := zn BK340 hg; have NB341_340 := zn' BK340 hg; have n0_ := Aside0.mk (hbox); replace BK339 := zk BK339 hb; replace BK340 := zk BK340 hb; replace HB := zb HB hb; have BK341 := n0_; clear n0_; clear hb hbox hg) | ((with_reducible refine gate_dst (N := 9) rfl ?_); refine box_event ?hg (N := 9) ?hd (cs := #[.int .i64 a3_0, .int .i64 a3_1, .int .i64 a3_2, .slice A3_3 l3_3.length c3_3]) (t := 24) ?hr ?_; (case hd => rfl); (case hg => rfl); (case hr => first | (go_simp; done) | (go_simp; rfl)); intro gb342 hg w19 hbox hb; have GW342 := zg HB hg; have GE342 := zg HB hg; have NB339_342 := zn BK339 hg; have NB342_339 := zn' BK339 hg; have NB340_342 := zn BK340 hg; have NB342_340 := zn' BK340 hg; have NB341_342 := zn BK341 hg; have NB342_341 := zn' BK341 hg; have n0_ := Aside0.mk (hbox); replace BK339 := zk BK339 hb; replace BK340 := zk BK340 hb; replace BK341 := zk BK341 hb; replace HB := zb HB hb; have BK342 := n0_; clear n0_; clear hb hbox hg) | ((with_reducible refine gate_dst (N := 11) rfl ?_); refine box_event ?hg (N := 11) ?hd (cs := #[.int .i64 a5_0, .int .i64 a5_1, .int .i64 a5_2, .int .i64 a5_3]) (t := 34) ?hr ?_; (case hd => rfl); (case hg => rfl); (case hr => first | (go_simp; done) | (go_simp; rfl)); intro gb343 hg w20 hbox hb; have GW343 := zg HB hg; have GE343 := zg HB hg; have NB339_343 := zn BK339 hg; have NB343_339 := zn' BK339 hg; have NB340_343 := zn BK340 hg; have NB343_340 := zn' BK340 hg; have NB341_343 := zn BK341 hg; have NB343_341 := zn' BK341 hg; have NB342_343 := zn BK342 hg; have NB343_342 := zn' BK342 hg; have n0_ := Aside0.mk (hbox); replace BK339 := zk BK339 hb; replace BK340 := zk BK340 hb; replace BK341 := zk BK341 hb; replace BK342 := zk BK342 hb; replace HB := zb HB hb; have BK343 := n0_; clear n0_; clear hb hbox hg) | ((with_reducible refine gate_dst (N := 12) rfl ?_); refine box_event ?hg (N := 12) ?hd (cs := #[.int .i64 0, .int .i64 0, .slice none 0 0]) (t := 40) ?hr ?_; (case hd => rfl); (case hg => rfl); (case hr => first | (go_simp; done) | (go_simp; rfl)); intro gb344 hg w21 hbox hb; have GW344 := zg HB hg; have GE344 := zg HB hg; have NB339_344 := zn BK339 hg; have NB344_339 := zn' BK339 hg; have NB340_344 := zn BK340 hg; have NB344_340 := zn' BK340 hg; have NB341_344 := zn BK341 hg; have NB344_341 := zn' BK341 hg; have NB342_344 := zn BK342 hg; have NB344_342 := zn' BK342 hg; have NB343_344 := zn BK343 hg; have NB344_343 := zn' BK343 hg; have n0_ := Aside0.mk (hbox); replace BK339 := zk BK339 hb; replace BK340 := zk BK340 hb; replace BK341 := zk BK341 hb; replace BK342 := zk BK342 hb; replace BK343 := zk BK343 hb; replace HB := zb HB hb; have BK344 := n0_; clear n0_; clear hb hbox hg; have hnb22 := NB339_340.out; have hnc22 := NB340_339.out; have hnb23 := NB339_341.out; have hnc23 := NB341_339.out; have hnb24 := NB339_342.out; have hnc24 := NB342_339.out; have hnb25 := NB339_343.out; have hnc25 := NB343_339.out; have hnb26 := NB339_344.out; have hnc26 := NB344_339.out; obtain ⟨hcz27_0, hcz27_1, hcz27_2, hfz27_0, hfz27_1, hfz27_2⟩ := zq3 BK339) | ((with_reducible refine gate_callee (f := 22) rfl ?_); refine goesL_ (some 32) rfl rfl Try.func22 (by kernel_rfl) rfl #[.agg #[.int .i64 a0_0, .int .i64 a0_1, .slice A0_2 l0_2.length c0_2]] rfl (by (try simp only [List.map_toArray, List.map_cons, List.map_nil]); first | done | rfl | (simp only [List.length_drop, List.length_take]; rfl)) ?_; (with_reducible refine (raster_Check.calls k a0_0 a0_1 _ _ l0_2 t345 _ ?side1 ?side2 A7.out).mono ?_); (case side1 => repeat (first | exact (Kd.C_below HR0_2.out HB.out) | (with_reducible refine Kd.C_alloc ?_ _) | (with_reducible refine Kd.C_drewN ?_ _) | (with_reducible refine Kd.C_drew ?_))); (case side2 => exact HC0_2.out); rintro e w28 ⟨rfl, hb⟩; refine ⟨_, rfl, ?_⟩; replace BK339 := zk BK339 hb; replace BK340 := zk BK340 hb; replace BK341 := zk BK341 hb; replace BK342 := zk BK342 hb; replace BK343 := zk BK343 hb; replace BK344 := zk BK344 hb; replace HB := zb HB hb; (try clear hb); (try clear hb2); (try clear hk); (try clear hi); have hnb29 := NB342_340.out; have hnc29 := NB340_342.out; have hnb30 := NB342_341.out; have hnc30 := NB341_342.out; have hnb31 := NB342_343.out; have hnc31 := NB343_342.out; have hnb32 := NB342_344.out; have hnc32 := NB344_342.out; obtain ⟨hcz33_0, hcz33_1, hcz33_2, hcz33_3, hfz33_0, hfz33_1, hfz33_2, hfz33_3⟩ := zq4 BK342; have hnb34 := NB343_340.out; have hnc34 := NB340_343.out; have hnb35 := NB343_341.out; have hnc35 := NB341_343.out; have hnb36 := NB343_344.out; have hnc36 := NB344_343.out; obtain ⟨hcz37_0, hcz37_1, hcz37_2, hcz37_3, hfz37_0, hfz37_1, hfz37_2, hfz37_3⟩ := zq4 BK343; have hnb38 := NB341_340.out; have hnc38 := NB340_341.out; have hnb39 := NB341_344.out; have hnc39 := NB344_341.out; obtain ⟨hcz40_0, hcz40_1, hcz40_2, hcz40_3, hfz40_0, hfz40_1, hfz40_2, hfz40_3⟩ := zq4 BK341) | ((with_reducible refine gate_callee (f := 17) rfl ?_); refine goesL_ (some 42) rfl rfl Try.func17 (by kernel_rfl) rfl #[.agg #[.int .i64 a3_0, .int .i64 a3_1, .int .i64 a3_2, .slice A3_3 l3_3.length c3_3], .int .i64 a4, .agg #[.int .i64 a5_0, .int .i64 a5_1, .int .i64 a5_2, .int .i64 a5_3], .agg #[.int .i64 a2_0, .int .i64 a2_1, .int .i64 a2_2, .int .i64 a2_3]] rfl (by (try simp only [List.map_toArray, List.map_cons, List.map_nil]); first | done | rfl | (simp only [List.length_drop, List.length_take]; rfl)) ?_; (with_reducible refine (warp_Needs.calls k a3_0 a3_1 a3_2 _ _ l3_3 a4 a5_0 a5_1 a5_2 a5_3 a2_0 a2_1 a2_2 a2_3 t346 t347 t348 t349 t350 _ ?side1 ?side2 A9.out).mono ?_); (case side1 => repeat (first | exact (Kd.C_below HR3_3.out HB.out) | (with_reducible refine Kd.C_alloc ?_ _) | (with_reducible refine Kd.C_drewN ?_ _) | (with_reducible refine Kd.C_drew ?_))); (case side2 => exact HC3_3.out); rintro e w41 ⟨rfl, hb⟩; refine ⟨_, rfl, ?_⟩; replace BK339 := zk BK339 hb; replace BK340 := zk BK340 hb; replace BK341 := zk BK341 hb; replace BK342 := zk BK342 hb; replace BK343 := zk BK343 hb; replace BK344 := zk BK344 hb; replace HB := zb HB hb; (try clear hb); (try clear hb2); (try clear hk); (try clear hi)) | ((with_reducible refine gate_dst (N := 15) rfl ?_); refine box_event ?hg (N := 15) ?hd (cs := #[.int .i64 0, .int .i64 0, .int .i64 0, .int .i64 0]) (t := 34) ?hr ?_; (case hd => rfl); (case hg => rfl); (case hr => first | (go_simp; done) | (go_simp; rfl)); intro gb351 hg w42 hbox hb; have GW351 := zg HB hg; have GE351 := zg HB hg; have NB339_351 := zn BK339 hg; have NB351_339 := zn' BK339 hg; have NB340_351 := zn BK340 hg; have NB351_340 := zn' BK340 hg; have NB341_351 := zn BK341 hg; have NB351_341 := zn' BK341 hg; have NB342_351 := zn BK342 hg; have NB351_342 := zn' BK342 hg; have NB343_351 := zn BK343 hg; have NB351_343 := zn' BK343 hg; have NB344_351 := zn BK344 hg; have NB351_344 := zn' BK344 hg; have n0_ := Aside0.mk (hbox); replace BK339 := zk BK339 hb; replace BK340 := zk BK340 hb; replace BK341 := zk BK341 hb; replace BK342 := zk BK342 hb; replace BK343 := zk BK343 hb; replace BK344 := zk BK344 hb; replace HB := zb HB hb; have BK351 := n0_; clear n0_; clear hb hbox hg; have hnb43 := NB351_339.out; have hnc43 := NB339_351.out; have hnb44 := NB351_340.out; have hnc44 := NB340_351.out; have hnb45 := NB351_341.out; have hnc45 := NB341_351.out; have hnb46 := NB351_342.out; have hnc46 := NB342_351.out; have hnb47 := NB351_343.out; have hnc47 := NB343_351.out; have hnb48 := NB351_344.out; have hnc48 := NB344_351.out; obtain ⟨hcz49_0, hcz49_1, hcz49_2, hcz49_3, hfz49_0, hfz49_1, hfz49_2, hfz49_3⟩ := zq4 BK351; obtain ⟨hcz50_0, hcz50_1, hcz50_2, hfz50_0, hfz50_1, hfz50_2⟩ := zq3 BK339; have hnb51 := NB340_344.out; have hnc51 := NB344_340.out; obtain ⟨hcz52_0, hcz52_1, hfz52_0, hfz52_1⟩ := zq2 BK340) | ((with_reducible refine gate_callee (f := 47) rfl ?_); refine goesL_ (some 52) rfl rfl Try.func47 (by kernel_rfl) rfl #[.agg #[.int .i64 a0_0, .int .i64 a0_1, .slice A0_2 l0_2.length c0_2], .agg #[.int .i64 a1_0, .int .i64 a1_1], .agg #[.int .i64 t346, .int .i64 t347, .int .i64 t348, .int .i64 t349]] rfl (by (try simp only [List.map_toArray, List.map_cons, List.map_nil]); first | done | rfl | (simp only [List.length_drop, List.length_take]; rfl)) ?_; (with_reducible refine (warp_covers.calls a0_0 a0_1 _ _ l0_2 a1_0 a1_1 t346 t347 t348 t349 true _ ?side1 ?side2 A11.out).mono ?_); (case side1 => exact Kd.C_below HR0_2.out (by exact zbo HB GE351)); (case side2 => exact HC0_2.out); rintro e w53 ⟨rfl, hb⟩; refine ⟨_, rfl, ?_⟩; have n0_ := Aside0.mk (blk_below (g := gb351) (o := .cells #[.int .i64 t346, .int .i64 t347, .int .i64 t348, .int .i64 t349] 34 (0, 0)) (by exact zp BK351 rfl) hb); have n1_ := Aside0.mk (below_step (by exact zbo HB GE351) hb); replace BK339 := zfk BK339 NB339_351 hb; replace BK340 := zfk BK340 NB340_351 hb; replace BK341 := zfk BK341 NB341_351 hb; replace BK342 := zfk BK342 NB342_351 hb; replace BK343 := zfk BK343 NB343_351 hb; replace BK344 := zfk BK344 NB344_351 hb; clear BK351; clear HB; have BK351 := n0_; have HB := n1_; clear n0_ n1_; (try clear hb); (try clear hb2); (try clear hk); (try clear hi)))
      replace BK339 := zkd BK339
      replace BK340 := zkd BK340
      replace BK341 := zkd BK341
      replace BK342 := zkd BK342
      replace BK343 := zkd BK343
      replace BK344 := zkd BK344
      replace BK351 := zkd BK351
      replace HB := zbd HB
      refine start_ (n := 13) (S := fun w' => w'.cell? ⟨gb343, 0, none⟩ = some (.int .i64 a5_0) ∧ w'.cell? ⟨gb343, 1, none⟩ = some (.int .i64 a5_1) ∧ w'.cell? ⟨gb343, 2, none⟩ = some (.int .i64 a5_2) ∧ w'.cell? ⟨gb343, 3, none⟩ = some (.int .i64 a5_3)) (ds := []) (bs 13 0) (by kernel_rfl) rfl rfl ⟨(blk_cell BK343.out 0).trans rfl, (blk_cell BK343.out 1).trans rfl, (blk_cell BK343.out 2).trans rfl, (blk_cell BK343.out 3).trans rfl⟩ (fun hHeld => ?_); refine with_tabW warp_Draw.tab10 warp_Draw.bits10 (fun HT_ HW_ => ?_)
      generalize w53.drew = w54 at BK339 BK340 BK341 BK342 BK343 BK344 BK351 HB hHeld ⊢
      refine pure_ (i := 0) (N := some 56) (v := ?_) (a' := ?_) (bs 13 1) rfl rfl (any_of HT_.out (by kernel_rfl)) (fun _ _ _ h => h) (Or.inl ⟨by rfl, ?_⟩) ?_ ?_
      rotate_left
      ·intro w'
       go_simp
       with_reducible rfl
      rotate_left
      ·simp only [Act.put, sA, sB, sC, i64_w, i32_w]
       rfl
      refine pure_ (i := 2) (N := some 58) (v := ?_) (a' := ?_) (bs 13 5) rfl rfl (any_of HT_.out (by kernel_rfl)) (fun _ _ _ h => h) (Or.inl ⟨by rfl, ?_⟩) ?_ ?_
      rotate_left
      ·intro w'
       go_simp
       with_reducible rfl
      rotate_left
      ·simp only [Act.put, sA, sB, sC, i64_w, i32_w]
       rfl
      refine pure_ (i := 4) (N := some 60) (v := ?_) (a' := ?_) (bs 13 21) rfl rfl (any_of HT_.out (by kernel_rfl)) (fun _ _ _ h => h) (Or.inl ⟨by rfl, ?_⟩) ?_ ?_
      rotate_left
      ·intro w'
       go_simp
       with_reducible rfl
      rotate_left
      ·simp only [Act.put, sA, sB, sC, i64_w, i32_w]
       rfl
      refine pure_ (i := 6) (N := some 62) (v := ?_) (a' := ?_) (bs 13 85) rfl rfl (any_of HT_.out (by kernel_rfl)) (fun _ _ _ h => h) (Or.inl ⟨by rfl, ?_⟩) ?_ ?_
      rotate_left
      ·intro w'
       go_simp
       with_reducible rfl
      rotate_left
      ·simp only [Act.put, sA, sB, sC, i64_w, i32_w]
       rfl
      refine take_ (i := 1) (N := some 57) (v := ?_) (a' := ?_) (bs 13 87) rfl rfl (take_ofW HT_.out HW_.out (by kernel_rfl)) (fun _ _ _ h => h) (Or.inl ⟨by rfl, ?_⟩) hHeld ?_ ?_
      rotate_left
      ·rintro w' ⟨s0, s1, s2, s3⟩
       go_simp
       with_reducible rfl
      rotate_left
      ·simp only [Act.put, sA, sB, sC, i64_w, i32_w]
       rfl
      refine take_ (i := 3) (N := some 59) (v := ?_) (a' := ?_) (bs 13 95) rfl rfl (take_ofW HT_.out HW_.out (by kernel_rfl)) (fun _ _ _ h => h) (Or.inl ⟨by rfl, ?_⟩) hHeld ?_ ?_
      rotate_left
      ·rintro w' ⟨s0, s1, s2, s3⟩
       go_simp
       with_reducible rfl
      rotate_left
      ·simp only [Act.put, sA, sB, sC, i64_w, i32_w]
       rfl
      refine take_ (i := 5) (N := some 61) (v := ?_) (a' := ?_) (bs 13 127) rfl rfl (take_ofW HT_.out HW_.out (by kernel_rfl)) (fun _ _ _ h => h) (Or.inl ⟨by rfl, ?_⟩) hHeld ?_ ?_
      rotate_left
      ·rintro w' ⟨s0, s1, s2, s3⟩
       go_simp
       with_reducible rfl
      rotate_left
      ·simp only [Act.put, sA, sB, sC, i64_w, i32_w]
       rfl
      refine take_ (i := 7) (N := some 63) (v := ?_) (a' := ?_) (bs 13 255) rfl rfl (take_ofW HT_.out HW_.out (by kernel_rfl)) (fun _ _ _ h => h) (Or.inl ⟨by rfl, ?_⟩) hHeld ?_ ?_
      rotate_left
      ·rintro w' ⟨s0, s1, s2, s3⟩
       go_simp
       with_reducible rfl
      rotate_left
      ·simp only [Act.put, sA, sB, sC, i64_w, i32_w]
       rfl
      refine pure_ (i := 8) (N := some 64) (v := ?_) (a' := ?_) (bs 13 511) rfl rfl (any_of HT_.out (by kernel_rfl)) (fun _ _ _ h => h) (Or.inl ⟨by rfl, ?_⟩) ?_ ?_
      rotate_left
      ·intro w'
       go_simp
       with_reducible rfl
      rotate_left
      ·simp only [Act.put, sA, sB, sC, i64_w, i32_w]
       rfl
      refine join_ (σ := Value × Nat) 1 (bs 13 4095) (fun s_ => [(65, s_.1), (18, .pointer (some ⟨s_.2, 0, none⟩)), (66, .agg #[.int .i64 a5_2, .int .i64 a5_3, s_.1])]) (fun s_ w' => (w'.cell? ⟨gb343, 0, none⟩ = some (.int .i64 a5_0) ∧ w'.cell? ⟨gb343, 1, none⟩ = some (.int .i64 a5_1) ∧ w'.cell? ⟨gb343, 2, none⟩ = some (.int .i64 a5_2) ∧ w'.cell? ⟨gb343, 3, none⟩ = some (.int .i64 a5_3)) ∧ (Kd.R k48 48 w' w.heap.size (fun _ => True) s_.1 y353) ∧ (w'.heap[gb339]? = some (.cells #[.int .i64 a0_0, .int .i64 a0_1, .slice A0_2 l0_2.length c0_2] 40 (0, 0))) ∧ (w'.heap[gb340]? = some (.cells #[.int .i64 a1_0, .int .i64 a1_1] 28 (0, 0))) ∧ (w'.heap[gb341]? = some (.cells #[.int .i64 a2_0, .int .i64 a2_1, .int .i64 a2_2, .int .i64 a2_3] 34 (0, 0))) ∧ (w'.heap[gb342]? = some (.cells #[.int .i64 a3_0, .int .i64 a3_1, .int .i64 a3_2, .slice A3_3 l3_3.length c3_3] 24 (0, 0))) ∧ (w'.heap[gb343]? = some (.cells #[.int .i64 a5_0, .int .i64 a5_1, .int .i64 a5_2, .int .i64 a5_3] 34 (0, 0))) ∧ (w'.heap[gb344]? = some (.cells #[.int .i64 0, .int .i64 0, .slice none 0 0] 40 (0, 0))) ∧ (w'.heap[gb351]? = some (.cells #[.int .i64 t346, .int .i64 t347, .int .i64 t348, .int .i64 t349] 34 (0, 0))) ∧ (w'.heap[s_.2]? = some (.cells #[.int .i64 0, .int .i64 0, .slice none 0 0] 40 (0, 0))) ∧ (w.heap.size ≤ s_.2) ∧ (w.heap.size ≤ s_.2) ∧ (gb339 ≠ s_.2) ∧ (s_.2 ≠ gb339) ∧ (gb340 ≠ s_.2) ∧ (s_.2 ≠ gb340) ∧ (gb341 ≠ s_.2) ∧ (s_.2 ≠ gb341) ∧ (gb342 ≠ s_.2) ∧ (s_.2 ≠ gb342) ∧ (gb343 ≠ s_.2) ∧ (s_.2 ≠ gb343) ∧ (gb344 ≠ s_.2) ∧ (s_.2 ≠ gb344) ∧ (gb351 ≠ s_.2) ∧ (s_.2 ≠ gb351) ∧ (Below w.heap.size w w')) ?_ ?_
      rotate_left
      ·intro hCont
       refine two_ (i := 9) (j := 11) (Ni := some 65) (Nj := some 18) (bs 13 1023) (bs 13 2559) rfl rfl rfl rfl (two_of HT_.out (by kernel_rfl)) (by decide) (by decide) (fun K hK => ?_) (fun K hK => ?_)
       ·skip
        refine Kd.R_make0_step k48 _ 48 (by rfl) (N := 65) rfl 38 _ _ rfl ji13 rfl rfl Try.underlying38 (.agg #[(.int .i64 0), (.int .i64 0), (.int .i64 0), (.int .i64 0)]) 32 info48 rfl (by decide) (by omega) z48 (ok := fun _ => True) (okp := fun _ => True) (k48_mkM _ _ _ z48 ) (fun _ hk => hk) trivial (of_decide_eq_true (by first | (with_reducible assumption) | assumption)) (Nat.le_trans (Nat.mul_le_mul_right _ (of_decide_eq_true (by first | (with_reducible assumption) | assumption) : ji13.toNat ≤ 8796093022208)) (by omega)) (Below.refl _ _) (Nat.le_refl _) ?_
        intro v354 w55 ho56 hb hg_ hnew_
        clear hg_ hnew_
        (first | rw [← Ny353.out] at ho56 | (simp only [Int.reduceToNat] at ho56; rw [← Ny353.out] at ho56))
        have HO355 := zl HB ho56
        replace BK339 := zk BK339 hb
        replace BK340 := zk BK340 hb
        replace BK341 := zk BK341 hb
        replace BK342 := zk BK342 hb
        replace BK343 := zk BK343 hb
        replace BK344 := zk BK344 hb
        replace BK351 := zk BK351 hb
        replace HB := zb HB hb
        clear hb ho56
        obtain ⟨Ao57, co57, eo57⟩ := Kd.R_slice HO355.out
        (first | subst eo57 | (injection eo57 with f1_ f2_ f3_; have f4_ := f1_.symm; have f5_ := f3_.symm; clear f1_ f2_ f3_; subst f4_; subst f5_))
        refine hK.out _ _ ⟨(blk_cell BK343.out 0).trans rfl, (blk_cell BK343.out 1).trans rfl, (blk_cell BK343.out 2).trans rfl, (blk_cell BK343.out 3).trans rfl⟩ (fun hHeld => ?_)
        clear hK K
        refine norm_ (a' := ?_) ?_ ?_
        rotate_left
        ·show Act.put _ (some 65) _ = _
         simp only [Act.put, sA, sB, sC, i64_w, i32_w]
         rfl
        refine pure_ (i := 10) (N := some 66) (v := ?_) (a' := ?_) (bs 13 2047) rfl rfl (any_of HT_.out (by kernel_rfl)) (fun _ _ _ h => h) (Or.inl ⟨by rfl, ?_⟩) ?_ ?_
        rotate_left
        ·intro w'
         go_simp
         with_reducible rfl
        rotate_left
        ·simp only [Act.put, sA, sB, sC, i64_w, i32_w]
         rfl
        refine one_ (i := 11) (N := some 18) (bs 13 4095) rfl rfl (one_of HT_.out (by kernel_rfl)) (by decide) (fun K hK => ?_)
        refine box_step ?hg (N := 18) ?hd (cs := #[.int .i64 0, .int .i64 0, .slice none 0 0]) (t := 40) ?hr ?_; (case hd => rfl); (case hg => rfl); (case hr => first | (go_simp; done) | (go_simp; rfl))
        intro gb356 hg w58 hbox hb
        have GW356 := zg HB hg
        have GE356 := zg HB hg
        have NB339_356 := zn BK339 hg
        have NB356_339 := zn' BK339 hg
        have NB340_356 := zn BK340 hg
        have NB356_340 := zn' BK340 hg
        have NB341_356 := zn BK341 hg
        have NB356_341 := zn' BK341 hg
        have NB342_356 := zn BK342 hg
        have NB356_342 := zn' BK342 hg
        have NB343_356 := zn BK343 hg
        have NB356_343 := zn' BK343 hg
        have NB344_356 := zn BK344 hg
        have NB356_344 := zn' BK344 hg
        have NB351_356 := zn BK351 hg
        have NB356_351 := zn' BK351 hg
        have n0_ := Aside0.mk (hbox)
        replace HO355 := zr HO355 hb
        replace BK339 := zk BK339 hb
        replace BK340 := zk BK340 hb
        replace BK341 := zk BK341 hb
        replace BK342 := zk BK342 hb
        replace BK343 := zk BK343 hb
        replace BK344 := zk BK344 hb
        replace BK351 := zk BK351 hb
        replace HB := zb HB hb
        have BK356 := n0_
        clear n0_
        clear hb hbox hg
        refine hK.out _ _ ⟨(blk_cell BK343.out 0).trans rfl, (blk_cell BK343.out 1).trans rfl, (blk_cell BK343.out 2).trans rfl, (blk_cell BK343.out 3).trans rfl⟩ (fun hHeld => ?_)
        clear hK K
        refine norm_ (a' := ?_) ?_ ?_
        rotate_left
        ·show Act.put _ (some 18) _ = _
         simp only [Act.put, sA, sB, sC, i64_w, i32_w]
         rfl
        exact norm_ (by simp only [putAll, Act.put, sA, sB, sC]) (hCont (.slice Ao57 y353.length co57, gb356) _ ⟨hHeld, (by exact zr0 HO355), (by exact zk0 BK339), (by exact zk0 BK340), (by exact zk0 BK341), (by exact zk0 BK342), (by exact zk0 BK343), (by exact zk0 BK344), (by exact zk0 BK351), (by exact zk0 BK356), GW356.out, GE356.out, NB339_356.out, NB356_339.out, NB340_356.out, NB356_340.out, NB341_356.out, NB356_341.out, NB342_356.out, NB356_342.out, NB343_356.out, NB356_343.out, NB344_356.out, NB356_344.out, NB351_356.out, NB356_351.out, (by exact zb0 HB)⟩)
       ·skip
        refine box_step ?hg (N := 18) ?hd (cs := #[.int .i64 0, .int .i64 0, .slice none 0 0]) (t := 40) ?hr ?_; (case hd => rfl); (case hg => rfl); (case hr => first | (go_simp; done) | (go_simp; rfl))
        intro gb356 hg w55 hbox hb
        have GW356 := zg HB hg
        have GE356 := zg HB hg
        have NB339_356 := zn BK339 hg
        have NB356_339 := zn' BK339 hg
        have NB340_356 := zn BK340 hg
        have NB356_340 := zn' BK340 hg
        have NB341_356 := zn BK341 hg
        have NB356_341 := zn' BK341 hg
        have NB342_356 := zn BK342 hg
        have NB356_342 := zn' BK342 hg
        have NB343_356 := zn BK343 hg
        have NB356_343 := zn' BK343 hg
        have NB344_356 := zn BK344 hg
        have NB356_344 := zn' BK344 hg
        have NB351_356 := zn BK351 hg
        have NB356_351 := zn' BK351 hg
        have n0_ := Aside0.mk (hbox)
        replace BK339 := zk BK339 hb
        replace BK340 := zk BK340 hb
        replace BK341 := zk BK341 hb
        replace BK342 := zk BK342 hb
        replace BK343 := zk BK343 hb
        replace BK344 := zk BK344 hb
        replace BK351 := zk BK351 hb
        replace HB := zb HB hb
        have BK356 := n0_
        clear n0_
        clear hb hbox hg
        refine hK.out _ _ ⟨(blk_cell BK343.out 0).trans rfl, (blk_cell BK343.out 1).trans rfl, (blk_cell BK343.out 2).trans rfl, (blk_cell BK343.out 3).trans rfl⟩ (fun hHeld => ?_)
        clear hK K
        refine norm_ (a' := ?_) ?_ ?_
        rotate_left
        ·show Act.put _ (some 18) _ = _
         simp only [Act.put, sA, sB, sC, i64_w, i32_w]
         rfl
        refine one_ (i := 9) (N := some 65) (bs 13 3071) rfl rfl (one_of HT_.out (by kernel_rfl)) (by decide) (fun K hK => ?_)
        refine Kd.R_make0_step k48 _ 48 (by rfl) (N := 65) rfl 38 _ _ rfl ji13 rfl rfl Try.underlying38 (.agg #[(.int .i64 0), (.int .i64 0), (.int .i64 0), (.int .i64 0)]) 32 info48 rfl (by decide) (by omega) z48 (ok := fun _ => True) (okp := fun _ => True) (k48_mkM _ _ _ z48 ) (fun _ hk => hk) trivial (of_decide_eq_true (by first | (with_reducible assumption) | assumption)) (Nat.le_trans (Nat.mul_le_mul_right _ (of_decide_eq_true (by first | (with_reducible assumption) | assumption) : ji13.toNat ≤ 8796093022208)) (by omega)) (Below.refl _ _) (Nat.le_refl _) ?_
        intro v354 w56 ho57 hb hg_ hnew_
        clear hg_ hnew_
        (first | rw [← Ny353.out] at ho57 | (simp only [Int.reduceToNat] at ho57; rw [← Ny353.out] at ho57))
        have HO355 := zl HB ho57
        replace BK339 := zk BK339 hb
        replace BK340 := zk BK340 hb
        replace BK341 := zk BK341 hb
        replace BK342 := zk BK342 hb
        replace BK343 := zk BK343 hb
        replace BK344 := zk BK344 hb
        replace BK351 := zk BK351 hb
        replace BK356 := zk BK356 hb
        replace HB := zb HB hb
        clear hb ho57
        obtain ⟨Ao58, co58, eo58⟩ := Kd.R_slice HO355.out
        (first | subst eo58 | (injection eo58 with f1_ f2_ f3_; have f4_ := f1_.symm; have f5_ := f3_.symm; clear f1_ f2_ f3_; subst f4_; subst f5_))
        refine hK.out _ _ ⟨(blk_cell BK343.out 0).trans rfl, (blk_cell BK343.out 1).trans rfl, (blk_cell BK343.out 2).trans rfl, (blk_cell BK343.out 3).trans rfl⟩ (fun hHeld => ?_)
        clear hK K
        refine norm_ (a' := ?_) ?_ ?_
        rotate_left
        ·show Act.put _ (some 65) _ = _
         simp only [Act.put, sA, sB, sC, i64_w, i32_w]
         rfl
        refine pure_ (i := 10) (N := some 66) (v := ?_) (a' := ?_) (bs 13 4095) rfl rfl (any_of HT_.out (by kernel_rfl)) (fun _ _ _ h => h) (Or.inl ⟨by rfl, ?_⟩) ?_ ?_
        rotate_left
        ·intro w'
         go_simp
         with_reducible rfl
        rotate_left
        ·simp only [Act.put, sA, sB, sC, i64_w, i32_w]
         rfl
        exact norm_ (by simp only [putAll, Act.put, sA, sB, sC]) (hCont (.slice Ao58 y353.length co58, gb356) _ ⟨hHeld, (by exact zr0 HO355), (by exact zk0 BK339), (by exact zk0 BK340), (by exact zk0 BK341), (by exact zk0 BK342), (by exact zk0 BK343), (by exact zk0 BK344), (by exact zk0 BK351), (by exact zk0 BK356), GW356.out, GE356.out, NB339_356.out, NB356_339.out, NB340_356.out, NB356_340.out, NB341_356.out, NB356_341.out, NB342_356.out, NB356_342.out, NB343_356.out, NB356_343.out, NB344_356.out, NB356_344.out, NB351_356.out, NB356_351.out, (by exact zb0 HB)⟩)
      rintro ⟨v354, gb356⟩ w59 ⟨hS_, h0_, h1_, h2_, h3_, h4_, h5_, h6_, h7_, h8_, h9_, h10_, h11_, h12_, h13_, h14_, h15_, h16_, h17_, h18_, h19_, h20_, h21_, h22_, h23_, h24_, h25_⟩
      have n0_ : Aside0 (Kd.R k48 48 w59 w.heap.size (fun _ => True) v354 y353) := ⟨h0_⟩
      have n1_ : Aside0 (w59.heap[gb339]? = some (.cells #[.int .i64 a0_0, .int .i64 a0_1, .slice A0_2 l0_2.length c0_2] 40 (0, 0))) := ⟨h1_⟩
      have n2_ : Aside0 (w59.heap[gb340]? = some (.cells #[.int .i64 a1_0, .int .i64 a1_1] 28 (0, 0))) := ⟨h2_⟩
      have n3_ : Aside0 (w59.heap[gb341]? = some (.cells #[.int .i64 a2_0, .int .i64 a2_1, .int .i64 a2_2, .int .i64 a2_3] 34 (0, 0))) := ⟨h3_⟩
      have n4_ : Aside0 (w59.heap[gb342]? = some (.cells #[.int .i64 a3_0, .int .i64 a3_1, .int .i64 a3_2, .slice A3_3 l3_3.length c3_3] 24 (0, 0))) := ⟨h4_⟩
      have n5_ : Aside0 (w59.heap[gb343]? = some (.cells #[.int .i64 a5_0, .int .i64 a5_1, .int .i64 a5_2, .int .i64 a5_3] 34 (0, 0))) := ⟨h5_⟩
      have n6_ : Aside0 (w59.heap[gb344]? = some (.cells #[.int .i64 0, .int .i64 0, .slice none 0 0] 40 (0, 0))) := ⟨h6_⟩
      have n7_ : Aside0 (w59.heap[gb351]? = some (.cells #[.int .i64 t346, .int .i64 t347, .int .i64 t348, .int .i64 t349] 34 (0, 0))) := ⟨h7_⟩
      have n8_ : Aside0 (w59.heap[gb356]? = some (.cells #[.int .i64 0, .int .i64 0, .slice none 0 0] 40 (0, 0))) := ⟨h8_⟩
      have n9_ : Aside0 (w.heap.size ≤ gb356) := ⟨h9_⟩
      have n10_ : Aside0 (w.heap.size ≤ gb356) := ⟨h10_⟩
      have n11_ : Aside0 (gb339 ≠ gb356) := ⟨h11_⟩
      have n12_ : Aside0 (gb356 ≠ gb339) := ⟨h12_⟩
      have n13_ : Aside0 (gb340 ≠ gb356) := ⟨h13_⟩
      have n14_ : Aside0 (gb356 ≠ gb340) := ⟨h14_⟩
      have n15_ : Aside0 (gb341 ≠ gb356) := ⟨h15_⟩
      have n16_ : Aside0 (gb356 ≠ gb341) := ⟨h16_⟩
      have n17_ : Aside0 (gb342 ≠ gb356) := ⟨h17_⟩
      have n18_ : Aside0 (gb356 ≠ gb342) := ⟨h18_⟩
      have n19_ : Aside0 (gb343 ≠ gb356) := ⟨h19_⟩
      have n20_ : Aside0 (gb356 ≠ gb343) := ⟨h20_⟩
      have n21_ : Aside0 (gb344 ≠ gb356) := ⟨h21_⟩
      have n22_ : Aside0 (gb356 ≠ gb344) := ⟨h22_⟩
      have n23_ : Aside0 (gb351 ≠ gb356) := ⟨h23_⟩
      have n24_ : Aside0 (gb356 ≠ gb351) := ⟨h24_⟩
      have n25_ : Aside0 (Below w.heap.size w w59) := ⟨h25_⟩
      clear BK339
      clear BK340
      clear BK341
      clear BK342
      clear BK343
      clear BK344
      clear BK351
      clear HB
      clear h0_ h1_ h2_ h3_ h4_ h5_ h6_ h7_ h8_ h9_ h10_ h11_ h12_ h13_ h14_ h15_ h16_ h17_ h18_ h19_ h20_ h21_ h22_ h23_ h24_ h25_
      have HO355 := n0_
      have BK339 := n1_
      have BK340 := n2_
      have BK341 := n3_
      have BK342 := n4_
      have BK343 := n5_
      have BK344 := n6_
      have BK351 := n7_
      have BK356 := n8_
      have GW356 := n9_
      have GE356 := n10_
      have NB339_356 := n11_
      have NB356_339 := n12_
      have NB340_356 := n13_
      have NB356_340 := n14_
      have NB341_356 := n15_
      have NB356_341 := n16_
      have NB342_356 := n17_
      have NB356_342 := n18_
      have NB343_356 := n19_
      have NB356_343 := n20_
      have NB344_356 := n21_
      have NB356_344 := n22_
      have NB351_356 := n23_
      have NB356_351 := n24_
      have HB := n25_
      clear n0_ n1_ n2_ n3_ n4_ n5_ n6_ n7_ n8_ n9_ n10_ n11_ n12_ n13_ n14_ n15_ n16_ n17_ n18_ n19_ n20_ n21_ n22_ n23_ n24_ n25_
      have hHeld : w59.cell? ⟨gb343, 0, none⟩ = some (.int .i64 a5_0) ∧ w59.cell? ⟨gb343, 1, none⟩ = some (.int .i64 a5_1) ∧ w59.cell? ⟨gb343, 2, none⟩ = some (.int .i64 a5_2) ∧ w59.cell? ⟨gb343, 3, none⟩ = some (.int .i64 a5_3) := hS_
      obtain ⟨Ao60, co60, eo60⟩ := Kd.R_slice HO355.out
      (first | subst eo60 | (injection eo60 with f1_ f2_ f3_; have f4_ := f1_.symm; have f5_ := f3_.symm; clear f1_ f2_ f3_; subst f4_; subst f5_))
      refine norm_ (a' := ?_) ?_ ?_
      rotate_left
      ·simp only [putAll, Act.put, sA, sB, sC]
       rfl
      refine one_ (i := 12) (N := none) (bs 13 8191) rfl rfl (one_of HT_.out (by kernel_rfl)) (by decide) (fun K hK => ?_)
      have hs61 : w59.cell? ⟨gb356, 0, none⟩ = some (.int .i64 0) := (blk_cell BK356.out 0).trans rfl
      have hfs61 := blk_frozen BK356.out 0
      have hns61_0 := NB339_356.out
      have hns61_1 := NB340_356.out
      have hns61_2 := NB341_356.out
      have hns61_3 := NB342_356.out
      have hns61_4 := NB343_356.out
      have hns61_5 := NB344_356.out
      have hns61_6 := NB351_356.out
      have hms61_0 := NB356_339.out
      have hms61_1 := NB356_340.out
      have hms61_2 := NB356_341.out
      have hms61_3 := NB356_342.out
      have hms61_4 := NB356_343.out
      have hms61_5 := NB356_344.out
      have hms61_6 := NB356_351.out
      have hs62 : w59.cell? ⟨gb356, 1, none⟩ = some (.int .i64 0) := (blk_cell BK356.out 1).trans rfl
      have hfs62 := blk_frozen BK356.out 1
      have hns62_0 := NB339_356.out
      have hns62_1 := NB340_356.out
      have hns62_2 := NB341_356.out
      have hns62_3 := NB342_356.out
      have hns62_4 := NB343_356.out
      have hns62_5 := NB344_356.out
      have hns62_6 := NB351_356.out
      have hms62_0 := NB356_339.out
      have hms62_1 := NB356_340.out
      have hms62_2 := NB356_341.out
      have hms62_3 := NB356_342.out
      have hms62_4 := NB356_343.out
      have hms62_5 := NB356_344.out
      have hms62_6 := NB356_351.out
      have hs63 : w59.cell? ⟨gb356, 2, none⟩ = some (.slice none 0 0) := (blk_cell BK356.out 2).trans rfl
      have hfs63 := blk_frozen BK356.out 2
      have hns63_0 := NB339_356.out
      have hns63_1 := NB340_356.out
      have hns63_2 := NB341_356.out
      have hns63_3 := NB342_356.out
      have hns63_4 := NB343_356.out
      have hns63_5 := NB344_356.out
      have hns63_6 := NB351_356.out
      have hms63_0 := NB356_339.out
      have hms63_1 := NB356_340.out
      have hms63_2 := NB356_341.out
      have hms63_3 := NB356_342.out
      have hms63_4 := NB356_343.out
      have hms63_5 := NB356_344.out
      have hms63_6 := NB356_351.out
      refine skip_ (w1 := ?_) (by rfl) rfl ?_ ?_
      rotate_left
      ·go_simp
       rfl
      refine hK.out _ _ ⟨((cell_far (p := ⟨gb356, _, none⟩) NB343_356.out _).trans (((cell_far (p := ⟨gb356, _, none⟩) NB343_356.out _).trans (((cell_far (p := ⟨gb356, _, none⟩) NB343_356.out _).trans (hHeld.1)))))), ((cell_far (p := ⟨gb356, _, none⟩) NB343_356.out _).trans (((cell_far (p := ⟨gb356, _, none⟩) NB343_356.out _).trans (((cell_far (p := ⟨gb356, _, none⟩) NB343_356.out _).trans (hHeld.2.1)))))), ((cell_far (p := ⟨gb356, _, none⟩) NB343_356.out _).trans (((cell_far (p := ⟨gb356, _, none⟩) NB343_356.out _).trans (((cell_far (p := ⟨gb356, _, none⟩) NB343_356.out _).trans (hHeld.2.2.1)))))), ((cell_far (p := ⟨gb356, _, none⟩) NB343_356.out _).trans (((cell_far (p := ⟨gb356, _, none⟩) NB343_356.out _).trans (((cell_far (p := ⟨gb356, _, none⟩) NB343_356.out _).trans (hHeld.2.2.2))))))⟩ (fun hHeld => ?_)
      clear hK K
      refine done_ (done_of HT_.out (by kernel_rfl)) ?_
      have hnb64 := NB343_356.out
      have hnc64 := NB356_343.out
      obtain ⟨hcz65_0, hcz65_1, hcz65_2, hcz65_3, hfz65_0, hfz65_1, hfz65_2, hfz65_3⟩ := zq4 BK343
      try go_wp2
      go_loopg [19] k (fun kq v19 w' => ∃ (x19_1 : Int) (x357002_1 : List (S48)) (u357002 : Value), v19 = .int .i64 x19_1 ∧ Aside0 (warp_Draw.l0 kq a4 x19_1 a0_0 a0_1 l0_2 a1_0 a1_1 a2_0 a2_1 a2_2 a2_3 a3_0 a3_1 a3_2 l3_3 a5_0 a5_1 a5_2 a5_3 a5_2 a5_3 x357002_1 = some (r1, r2, r3, r4)) ∧ Aside0 (kq ≤ k) ∧ Aside0 (Kd.R k48 48 w' w.heap.size (fun _ => True) u357002 x357002_1) ∧ Aside0 (w'.heap[gb339]? = some (.cells #[.int .i64 a0_0, .int .i64 a0_1, (.slice A0_2 l0_2.length c0_2)] 40 (0, 0))) ∧ Aside0 (w'.heap[gb340]? = some (.cells #[.int .i64 a1_0, .int .i64 a1_1] 28 (0, 0))) ∧ Aside0 (w'.heap[gb341]? = some (.cells #[.int .i64 a2_0, .int .i64 a2_1, .int .i64 a2_2, .int .i64 a2_3] 34 (0, 0))) ∧ Aside0 (w'.heap[gb342]? = some (.cells #[.int .i64 a3_0, .int .i64 a3_1, .int .i64 a3_2, (.slice A3_3 l3_3.length c3_3)] 24 (0, 0))) ∧ Aside0 (w'.heap[gb343]? = some (.cells #[.int .i64 a5_0, .int .i64 a5_1, .int .i64 a5_2, .int .i64 a5_3] 34 (0, 0))) ∧ Aside0 (w'.heap[gb344]? = some (.cells #[.int .i64 0, .int .i64 0, (.slice none 0 0)] 40 (0, 0))) ∧ Aside0 (w'.heap[gb351]? = some (.cells #[.int .i64 t346, .int .i64 t347, .int .i64 t348, .int .i64 t349] 34 (0, 0))) ∧ Aside0 (w'.heap[gb356]? = some (.cells #[.int .i64 a5_2, .int .i64 a5_3, u357002] 40 (0, 0))) ∧ Aside0 (Below w.heap.size w w'))
      case atStart => exact ⟨(a5_1), (y353), (.slice Ao60 y353.length co60), (by first | rfl | (simp; done) | (simp [*]; done)), H', ⟨Nat.le_refl _⟩, ⟨by exact zro HO355 BK356 (by decide)⟩, ⟨by exact zf BK339 NB339_356⟩, ⟨by exact zf BK340 NB340_356⟩, ⟨by exact zf BK341 NB341_356⟩, ⟨by exact zf BK342 NB342_356⟩, ⟨by exact zf BK343 NB343_356⟩, ⟨by exact zf BK344 NB344_356⟩, ⟨by exact zf BK351 NB351_356⟩, ⟨by exact zp BK356 rfl⟩, ⟨by exact zbo HB GE356⟩⟩
      case round =>
       clear H'
       try clear c1
       try clear c2
       try clear p2
       try clear q2
       try clear c3
       try clear q3
       try clear c4
       try clear q4
       try clear c5
       try clear c6
       try clear p6
       try clear c8
       try clear c8b0
       try clear c8b1
       try clear c10
       try clear c10b0
       try clear c10b1
       try clear c12
       try clear c14
       try clear c14b0
       try clear c14b1
       try clear c15
       try clear c15b0
       try clear c15b1
       try clear c17
       try clear c19
       try clear c22
       try clear c23
       try clear c24
       try clear c25
       try clear c26
       try clear c29
       try clear c30
       try clear c31
       try clear c32
       try clear c34
       try clear c35
       try clear c36
       try clear c38
       try clear c39
       try clear c43
       try clear c44
       try clear c45
       try clear c46
       try clear c47
       try clear c48
       try clear c51
       try clear c64
       try clear p64
       try clear hcz27_0
       try clear hcz27_1
       try clear hcz27_2
       try clear hcz33_0
       try clear hcz33_1
       try clear hcz33_2
       try clear hcz33_3
       try clear hcz37_0
       try clear hcz37_1
       try clear hcz37_2
       try clear hcz37_3
       try clear hcz40_0
       try clear hcz40_1
       try clear hcz40_2
       try clear hcz40_3
       try clear hcz49_0
       try clear hcz49_1
       try clear hcz49_2
       try clear hcz49_3
       try clear hcz50_0
       try clear hcz50_1
       try clear hcz50_2
       try clear hcz52_0
       try clear hcz52_1
       try clear hcz65_0
       try clear hcz65_1
       try clear hcz65_2
       try clear hcz65_3
       try clear hfz27_0
       try clear hfz27_1
       try clear hfz27_2
       try clear hfz33_0
       try clear hfz33_1
       try clear hfz33_2
       try clear hfz33_3
       try clear hfz37_0
       try clear hfz37_1
       try clear hfz37_2
       try clear hfz37_3
       try clear hfz40_0
       try clear hfz40_1
       try clear hfz40_2
       try clear hfz40_3
       try clear hfz49_0
       try clear hfz49_1
       try clear hfz49_2
       try clear hfz49_3
       try clear hfz50_0
       try clear hfz50_1
       try clear hfz50_2
       try clear hfz52_0
       try clear hfz52_1
       try clear hfz65_0
       try clear hfz65_1
       try clear hfz65_2
       try clear hfz65_3
       obtain ⟨x19_1, x357002_1, u357002, rfl, HA, HK1, HO_357002, BK339, BK340, BK341, BK342, BK343, BK344, BK351, BK356, HB⟩ := hrel
       cases gk with
       | zero => exact absurd HA.out (by simp [warp_Draw.l0])
       | succ k1 =>
        have H := HA.out
        clear HA
        simp only [warp_Draw.l0] at H
        by_cases c66 : x19_1 < (wrap64 (a5_1 + a5_3))
        ·rw [if_pos c66] at H
         have c66b0 : decide (x19_1 < (wrap64 (a5_1 + a5_3))) = true := decide_eq_true c66
         clear c66
         have H' := Aside0.mk H
         clear H
         obtain ⟨hcz67_0, hcz67_1, hcz67_2, hcz67_3, hfz67_0, hfz67_1, hfz67_2, hfz67_3⟩ := zq4 BK343
         go_wp2
         go_loopg [20] k1 (fun kq v20 w' => ∃ (x20_2 : Int) (x357002_2 : List (S48)) (u357002 : Value), v20 = .int .i64 x20_2 ∧ Aside0 (warp_Draw.l1 kq a4 x19_1 x20_2 a0_0 a0_1 l0_2 a1_0 a1_1 a2_0 a2_1 a2_2 a2_3 a3_0 a3_1 a3_2 l3_3 a5_0 a5_1 a5_2 a5_3 a5_2 a5_3 x357002_2 = some (r1, r2, r3, r4)) ∧ Aside0 (kq ≤ k1) ∧ Aside0 (Kd.R k48 48 w' w.heap.size (fun _ => True) u357002 x357002_2) ∧ Aside0 (w'.heap[gb339]? = some (.cells #[.int .i64 a0_0, .int .i64 a0_1, (.slice A0_2 l0_2.length c0_2)] 40 (0, 0))) ∧ Aside0 (w'.heap[gb340]? = some (.cells #[.int .i64 a1_0, .int .i64 a1_1] 28 (0, 0))) ∧ Aside0 (w'.heap[gb341]? = some (.cells #[.int .i64 a2_0, .int .i64 a2_1, .int .i64 a2_2, .int .i64 a2_3] 34 (0, 0))) ∧ Aside0 (w'.heap[gb342]? = some (.cells #[.int .i64 a3_0, .int .i64 a3_1, .int .i64 a3_2, (.slice A3_3 l3_3.length c3_3)] 24 (0, 0))) ∧ Aside0 (w'.heap[gb343]? = some (.cells #[.int .i64 a5_0, .int .i64 a5_1, .int .i64 a5_2, .int .i64 a5_3] 34 (0, 0))) ∧ Aside0 (w'.heap[gb344]? = some (.cells #[.int .i64 0, .int .i64 0, (.slice none 0 0)] 40 (0, 0))) ∧ Aside0 (w'.heap[gb351]? = some (.cells #[.int .i64 t346, .int .i64 t347, .int .i64 t348, .int .i64 t349] 34 (0, 0))) ∧ Aside0 (w'.heap[gb356]? = some (.cells #[.int .i64 a5_2, .int .i64 a5_3, u357002] 40 (0, 0))) ∧ Aside0 (Below w.heap.size w w'))
         case atStart => exact ⟨(a5_0), (x357002_1), (u357002), (by first | rfl | (simp; done) | (simp [*]; done)), H', ⟨Nat.le_refl _⟩, ⟨by exact zr0 HO_357002⟩, ⟨by exact zk0 BK339⟩, ⟨by exact zk0 BK340⟩, ⟨by exact zk0 BK341⟩, ⟨by exact zk0 BK342⟩, ⟨by exact zk0 BK343⟩, ⟨by exact zk0 BK344⟩, ⟨by exact zk0 BK351⟩, ⟨by exact zk0 BK356⟩, ⟨by exact zb0 HB⟩⟩
         case round =>
          clear H'
          try clear c1
          try clear c2
          try clear p2
          try clear q2
          try clear c3
          try clear q3
          try clear c4
          try clear q4
          try clear c5
          try clear c6
          try clear p6
          try clear c8
          try clear c8b0
          try clear c8b1
          try clear c10
          try clear c10b0
          try clear c10b1
          try clear c12
          try clear c14
          try clear c14b0
          try clear c14b1
          try clear c15
          try clear c15b0
          try clear c15b1
          try clear c17
          try clear c19
          try clear c22
          try clear c23
          try clear c24
          try clear c25
          try clear c26
          try clear c29
          try clear c30
          try clear c31
          try clear c32
          try clear c34
          try clear c35
          try clear c36
          try clear c38
          try clear c39
          try clear c43
          try clear c44
          try clear c45
          try clear c46
          try clear c47
          try clear c48
          try clear c51
          try clear c64
          try clear p64
          try clear c66
          try clear c66b0
          try clear hcz27_0
          try clear hcz27_1
          try clear hcz27_2
          try clear hcz33_0
          try clear hcz33_1
          try clear hcz33_2
          try clear hcz33_3
          try clear hcz37_0
          try clear hcz37_1
          try clear hcz37_2
          try clear hcz37_3
          try clear hcz40_0
          try clear hcz40_1
          try clear hcz40_2
          try clear hcz40_3
          try clear hcz49_0
          try clear hcz49_1
          try clear hcz49_2
          try clear hcz49_3
          try clear hcz50_0
          try clear hcz50_1
          try clear hcz50_2
          try clear hcz52_0
          try clear hcz52_1
          try clear hcz65_0
          try clear hcz65_1
          try clear hcz65_2
          try clear hcz65_3
          try clear hcz67_0
          try clear hcz67_1
          try clear hcz67_2
          try clear hcz67_3
          try clear hfz27_0
          try clear hfz27_1
          try clear hfz27_2
          try clear hfz33_0
          try clear hfz33_1
          try clear hfz33_2
          try clear hfz33_3
          try clear hfz37_0
          try clear hfz37_1
          try clear hfz37_2
          try clear hfz37_3
          try clear hfz40_0
          try clear hfz40_1
          try clear hfz40_2
          try clear hfz40_3
          try clear hfz49_0
          try clear hfz49_1
          try clear hfz49_2
          try clear hfz49_3
          try clear hfz50_0
          try clear hfz50_1
          try clear hfz50_2
          try clear hfz52_0
          try clear hfz52_1
          try clear hfz65_0
          try clear hfz65_1
          try clear hfz65_2
          try clear hfz65_3
          try clear hfz67_0
          try clear hfz67_1
          try clear hfz67_2
          try clear hfz67_3
          try clear p2
          try clear p6
          try clear p64
          try clear q2
          try clear q3
          try clear q4
          obtain ⟨x20_2, x357002_2, u357002, rfl, HA, HK2, HO_357002, BK339, BK340, BK341, BK342, BK343, BK344, BK351, BK356, HB⟩ := hrel
          cases gk with
          | zero => exact absurd HA.out (by simp [warp_Draw.l1])
          | succ k2 =>
           have H := HA.out
           clear HA
           simp only [warp_Draw.l1] at H
           by_cases c68 : x20_2 < (wrap64 (a5_0 + a5_2))
           ·rw [if_pos c68] at H
            have c68b0 : decide (x20_2 < (wrap64 (a5_0 + a5_2))) = true := decide_eq_true c68
            clear c68
            replace H := Option.bind_eq_some_iff.mp H
            obtain ⟨⟨t357, t358⟩, A690, H⟩ := H
            replace H : ((kernel_Taps.f k2 a4 (wrap64 ((wrap64 ((wrap64 (x20_2 * 65536)) + 32768)) + t357))).bind fun bt360 => ((kernel_Taps.f k2 a4 (wrap64 ((wrap64 ((wrap64 (x19_1 * 65536)) + 32768)) + t358))).bind fun bt364 => (warp_Draw.l2 k2 a4 x19_1 x20_2 bt360.1 bt360.2 bt364.1 bt364.2 (bt364.2.length : Int) 0 a0_0 a0_1 l0_2 a1_0 a1_1 a2_0 a2_1 a2_2 a2_3 a3_0 a3_1 a3_2 l3_3 a5_0 a5_1 a5_2 a5_3 a5_2 a5_3 x357002_2 0 0 0 0 0 0 0))) = some (r1, r2, r3, r4) := H
            have A69 := Aside0.mk A690
            clear A690
            replace H := Option.bind_eq_some_iff.mp H
            obtain ⟨⟨t360, t361⟩, A700, H⟩ := H
            replace H : ((kernel_Taps.f k2 a4 (wrap64 ((wrap64 ((wrap64 (x19_1 * 65536)) + 32768)) + t358))).bind fun bt364 => (warp_Draw.l2 k2 a4 x19_1 x20_2 t360 t361 bt364.1 bt364.2 (bt364.2.length : Int) 0 a0_0 a0_1 l0_2 a1_0 a1_1 a2_0 a2_1 a2_2 a2_3 a3_0 a3_1 a3_2 l3_3 a5_0 a5_1 a5_2 a5_3 a5_2 a5_3 x357002_2 0 0 0 0 0 0 0)) = some (r1, r2, r3, r4) := H
            have A70 := Aside0.mk A700
            clear A700
            replace H := Option.bind_eq_some_iff.mp H
            obtain ⟨⟨t364, t365⟩, A710, H⟩ := H
            replace H : (warp_Draw.l2 k2 a4 x19_1 x20_2 t360 t361 t364 t365 (t365.length : Int) 0 a0_0 a0_1 l0_2 a1_0 a1_1 a2_0 a2_1 a2_2 a2_3 a3_0 a3_1 a3_2 l3_3 a5_0 a5_1 a5_2 a5_3 a5_2 a5_3 x357002_2 0 0 0 0 0 0 0) = some (r1, r2, r3, r4) := H
            have A71 := Aside0.mk A710
            clear A710
            have H' := Aside0.mk H
            clear H
            have hnb72 := NB343_339.out
            have hnc72 := NB339_343.out
            have hnb73 := NB343_340.out
            have hnc73 := NB340_343.out
            have hnb74 := NB343_341.out
            have hnc74 := NB341_343.out
            have hnb75 := NB343_342.out
            have hnc75 := NB342_343.out
            have hnb76 := NB343_344.out
            have hnc76 := NB344_343.out
            have hnb77 := NB343_351.out
            have hnc77 := NB351_343.out
            have hnb78 := NB343_356.out
            have hnc78 := NB356_343.out
            obtain ⟨hcz79_0, hcz79_1, hcz79_2, hcz79_3, hfz79_0, hfz79_1, hfz79_2, hfz79_3⟩ := zq4 BK343
            have hnb80 := NB342_339.out
            have hnc80 := NB339_342.out
            have hnb81 := NB342_340.out
            have hnc81 := NB340_342.out
            have hnb82 := NB342_341.out
            have hnc82 := NB341_342.out
            have hnb83 := NB342_344.out
            have hnc83 := NB344_342.out
            have hnb84 := NB342_351.out
            have hnc84 := NB351_342.out
            have hnb85 := NB342_356.out
            have hnc85 := NB356_342.out
            obtain ⟨hcz86_0, hcz86_1, hcz86_2, hcz86_3, hfz86_0, hfz86_1, hfz86_2, hfz86_3⟩ := zq4 BK342
            go_wp2_with (first | ((with_reducible refine gate_callee (f := 29) rfl ?_); refine goesL_ (some 92) rfl rfl Try.func29 (by kernel_rfl) rfl #[.agg #[.int .i64 a3_0, .int .i64 a3_1, .int .i64 a3_2, .slice A3_3 l3_3.length c3_3], .int .i64 x20_2, .int .i64 x19_1] rfl (by (try simp only [List.map_toArray, List.map_cons, List.map_nil]); first | done | rfl | (simp only [List.length_drop, List.length_take]; rfl)) ?_; (with_reducible refine (warp_at.calls k2 a3_0 a3_1 a3_2 _ _ l3_3 x20_2 x19_1 t357 t358 _ ?side1 ?side2 A69.out).mono ?_); (case side1 => repeat (first | exact (Kd.C_below HR3_3.out HB.out) | (with_reducible refine Kd.C_alloc ?_ _) | (with_reducible refine Kd.C_drewN ?_ _) | (with_reducible refine Kd.C_drew ?_))); (case side2 => exact HC3_3.out); rintro e w87 ⟨rfl, hb⟩; refine ⟨_, rfl, ?_⟩; replace HO_357002 := zr HO_357002 hb; replace BK339 := zk BK339 hb; replace BK340 := zk BK340 hb; replace BK341 := zk BK341 hb; replace BK342 := zk BK342 hb; replace BK343 := zk BK343 hb; replace BK344 := zk BK344 hb; replace BK351 := zk BK351 hb; replace BK356 := zk BK356 hb; replace HB := zb HB hb; (try clear hb); (try clear hb2); (try clear hk); (try clear hi)) | ((with_reducible refine gate_dst (N := 21) rfl ?_); refine box_event ?hg (N := 21) ?hd (cs := #[.int .i64 0, .int .i64 0]) (t := 28) ?hr ?_; (case hd => rfl); (case hg => rfl); (case hr => first | (go_simp; done) | (go_simp; rfl)); intro gb359 hg w88 hbox hb; have GW359 := zg HB hg; have GE359 := zg HB hg; have NB339_359 := zn BK339 hg; have NB359_339 := zn' BK339 hg; have NB340_359 := zn BK340 hg; have NB359_340 := zn' BK340 hg; have NB341_359 := zn BK341 hg; have NB359_341 := zn' BK341 hg; have NB342_359 := zn BK342 hg; have NB359_342 := zn' BK342 hg; have NB343_359 := zn BK343 hg; have NB359_343 := zn' BK343 hg; have NB344_359 := zn BK344 hg; have NB359_344 := zn' BK344 hg; have NB351_359 := zn BK351 hg; have NB359_351 := zn' BK351 hg; have NB356_359 := zn BK356 hg; have NB359_356 := zn' BK356 hg; have n0_ := Aside0.mk (hbox); replace HO_357002 := zr HO_357002 hb; replace BK339 := zk BK339 hb; replace BK340 := zk BK340 hb; replace BK341 := zk BK341 hb; replace BK342 := zk BK342 hb; replace BK343 := zk BK343 hb; replace BK344 := zk BK344 hb; replace BK351 := zk BK351 hb; replace BK356 := zk BK356 hb; replace HB := zb HB hb; have BK359 := n0_; clear n0_; clear hb hbox hg; have hnb89 := NB359_339.out; have hnc89 := NB339_359.out; have hnb90 := NB359_340.out; have hnc90 := NB340_359.out; have hnb91 := NB359_341.out; have hnc91 := NB341_359.out; have hnb92 := NB359_342.out; have hnc92 := NB342_359.out; have hnb93 := NB359_343.out; have hnc93 := NB343_359.out; have hnb94 := NB359_344.out; have hnc94 := NB344_359.out; have hnb95 := NB359_351.out; have hnc95 := NB351_359.out; have hnb96 := NB359_356.out; have hnc96 := NB356_359.out; obtain ⟨hcz97_0, hcz97_1, hfz97_0, hfz97_1⟩ := zq2 BK359) | ((with_reducible refine gate_callee (f := 50) rfl ?_); refine goesL_ (some 101) rfl rfl Try.func50 (by kernel_rfl) rfl #[.int .i64 a4, .int .i64 (wrap64 ((wrap64 ((wrap64 (x20_2 * 65536)) + 32768)) + t357))] rfl (by (try simp only [List.map_toArray, List.map_cons, List.map_nil]); first | done | rfl | (simp only [List.length_drop, List.length_take]; rfl)) ?_; (with_reducible refine (kernel_Taps.calls k2 a4 (wrap64 ((wrap64 ((wrap64 (x20_2 * 65536)) + 32768)) + t357)) t360 t361 _ A70.out).mono ?_); rintro e w98 ⟨v362, rfl, ho0, hb⟩; refine ⟨_, rfl, ?_⟩; have n0_ := Aside0.mk (Kd.R_below (by exact zro HO_357002 BK359 (by decide)) hb); have n1_ := Aside0.mk (Kd.R_lower ho0 (below_size (by exact zbo HB GE359))); have n2_ := Aside0.mk (blk_below (g := gb359) (o := .cells #[.int .i64 t357, .int .i64 t358] 28 (0, 0)) (by exact zp BK359 rfl) hb); have n3_ := Aside0.mk (below_step (by exact zbo HB GE359) hb); replace BK339 := zfk BK339 NB339_359 hb; replace BK340 := zfk BK340 NB340_359 hb; replace BK341 := zfk BK341 NB341_359 hb; replace BK342 := zfk BK342 NB342_359 hb; replace BK343 := zfk BK343 NB343_359 hb; replace BK344 := zfk BK344 NB344_359 hb; replace BK351 := zfk BK351 NB351_359 hb; replace BK356 := zfk BK356 NB356_359 hb; clear HO_357002; clear BK359; clear HB; have HO_357002 := n0_; have HO363 := n1_; have BK359 := n2_; have HB := n3_; clear n0_ n1_ n2_ n3_; (try clear hb); (try clear hb2); (try clear hk); (try clear hi); (try clear ho0); obtain ⟨hcz99_0, hcz99_1, hfz99_0, hfz99_1⟩ := zq2 BK359) | ((with_reducible refine gate_callee (f := 50) rfl ?_); refine goesL_ (some 112) rfl rfl Try.func50 (by kernel_rfl) rfl #[.int .i64 a4, .int .i64 (wrap64 ((wrap64 ((wrap64 (x19_1 * 65536)) + 32768)) + t358))] rfl (by (try simp only [List.map_toArray, List.map_cons, List.map_nil]); first | done | rfl | (simp only [List.length_drop, List.length_take]; rfl)) ?_; (with_reducible refine (kernel_Taps.calls k2 a4 (wrap64 ((wrap64 ((wrap64 (x19_1 * 65536)) + 32768)) + t358)) t364 t365 _ A71.out).mono ?_); rintro e w100 ⟨v366, rfl, ho0, hb⟩; refine ⟨_, rfl, ?_⟩; have n0_ := Aside0.mk (Kd.R_elder' (by exact zr0 HO363) (Kd.R_base ho0) hb); have n1_ := Aside0.mk (Kd.R_lower (Kd.R_new' ho0 (Kd.R_lt (by exact zr0 HO363))) (below_size (by exact zb0 HB))); replace HO_357002 := zr HO_357002 hb; replace BK339 := zk BK339 hb; replace BK340 := zk BK340 hb; replace BK341 := zk BK341 hb; replace BK342 := zk BK342 hb; replace BK343 := zk BK343 hb; replace BK344 := zk BK344 hb; replace BK351 := zk BK351 hb; replace BK356 := zk BK356 hb; replace BK359 := zk BK359 hb; replace HB := zb HB hb; clear HO363; have HO363 := n0_; have HO367 := n1_; clear n0_ n1_; (try clear hb); (try clear hb2); (try clear hk); (try clear hi); (try clear ho0)) | ((with_reducible refine gate_dst (N := 26) rfl ?_); refine box_event ?hg (N := 26) ?hd (cs := #[.int .i64 0, .int .i64 0, .int .i64 0, .int .i64 0, .int .i64 0, .int .i64 0, .int .i64 0]) (t := 72) ?hr ?_; (case hd => rfl); (case hg => rfl); (case hr => first | (go_simp; done) | (go_simp; rfl)); intro gb368 hg w101 hbox hb; have GW368 := zg HB hg; have GE368 := zg HB hg; have NB339_368 := zn BK339 hg; have NB368_339 := zn' BK339 hg; have NB340_368 := zn BK340 hg; have NB368_340 := zn' BK340 hg; have NB341_368 := zn BK341 hg; have NB368_341 := zn' BK341 hg; have NB342_368 := zn BK342 hg; have NB368_342 := zn' BK342 hg; have NB343_368 := zn BK343 hg; have NB368_343 := zn' BK343 hg; have NB344_368 := zn BK344 hg; have NB368_344 := zn' BK344 hg; have NB351_368 := zn BK351 hg; have NB368_351 := zn' BK351 hg; have NB356_368 := zn BK356 hg; have NB368_356 := zn' BK356 hg; have NB359_368 := zn BK359 hg; have NB368_359 := zn' BK359 hg; have n0_ := Aside0.mk (hbox); replace HO_357002 := zr HO_357002 hb; replace HO363 := zr HO363 hb; replace HO367 := zr HO367 hb; replace BK339 := zk BK339 hb; replace BK340 := zk BK340 hb; replace BK341 := zk BK341 hb; replace BK342 := zk BK342 hb; replace BK343 := zk BK343 hb; replace BK344 := zk BK344 hb; replace BK351 := zk BK351 hb; replace BK356 := zk BK356 hb; replace BK359 := zk BK359 hb; replace HB := zb HB hb; have BK368 := n0_; clear n0_; clear hb hbox hg; obtain ⟨Ao102, co102, eo102⟩ := Kd.R_slice HO367.out; subst eo102))
            (try simp only [Act.put, sA, sB, sC])
            go_loopg [117] k2 (fun kq v117 w' => ∃ (x117_3 : Int) (x369000_3 : Int) (x369001_3 : Int) (x369002_3 : Int) (x369003_3 : Int) (x369004_3 : Int) (x369005_3 : Int) (x369006_3 : Int), v117 = .int .i64 x117_3 ∧ Aside0 (warp_Draw.l2 kq a4 x19_1 x20_2 t360 t361 t364 t365 (t365.length : Int) x117_3 a0_0 a0_1 l0_2 a1_0 a1_1 a2_0 a2_1 a2_2 a2_3 a3_0 a3_1 a3_2 l3_3 a5_0 a5_1 a5_2 a5_3 a5_2 a5_3 x357002_2 x369000_3 x369001_3 x369002_3 x369003_3 x369004_3 x369005_3 x369006_3 = some (r1, r2, r3, r4)) ∧ Aside0 (kq ≤ k2) ∧ Aside0 (Kd.R (Kd.int .i64) 3 w' w.heap.size (fun k_ => some k_ ≠ ((.slice Ao102 t365.length co102) : Value).ownBlock) v362 t361) ∧ Aside0 (Kd.R (Kd.int .i64) 3 w' w.heap.size (fun k_ => some k_ ≠ (v362 : Value).ownBlock) (.slice Ao102 t365.length co102) t365) ∧ Aside0 (Kd.R k48 48 w' w.heap.size (fun _ => True) u357002 x357002_2) ∧ Aside0 (w'.heap[gb339]? = some (.cells #[.int .i64 a0_0, .int .i64 a0_1, (.slice A0_2 l0_2.length c0_2)] 40 (0, 0))) ∧ Aside0 (w'.heap[gb340]? = some (.cells #[.int .i64 a1_0, .int .i64 a1_1] 28 (0, 0))) ∧ Aside0 (w'.heap[gb341]? = some (.cells #[.int .i64 a2_0, .int .i64 a2_1, .int .i64 a2_2, .int .i64 a2_3] 34 (0, 0))) ∧ Aside0 (w'.heap[gb342]? = some (.cells #[.int .i64 a3_0, .int .i64 a3_1, .int .i64 a3_2, (.slice A3_3 l3_3.length c3_3)] 24 (0, 0))) ∧ Aside0 (w'.heap[gb343]? = some (.cells #[.int .i64 a5_0, .int .i64 a5_1, .int .i64 a5_2, .int .i64 a5_3] 34 (0, 0))) ∧ Aside0 (w'.heap[gb344]? = some (.cells #[.int .i64 0, .int .i64 0, (.slice none 0 0)] 40 (0, 0))) ∧ Aside0 (w'.heap[gb351]? = some (.cells #[.int .i64 t346, .int .i64 t347, .int .i64 t348, .int .i64 t349] 34 (0, 0))) ∧ Aside0 (w'.heap[gb356]? = some (.cells #[.int .i64 a5_2, .int .i64 a5_3, u357002] 40 (0, 0))) ∧ Aside0 (w'.heap[gb359]? = some (.cells #[.int .i64 t357, .int .i64 t358] 28 (0, 0))) ∧ Aside0 (w'.heap[gb368]? = some (.cells #[.int .i64 x369000_3, .int .i64 x369001_3, .int .i64 x369002_3, .int .i64 x369003_3, .int .i64 x369004_3, .int .i64 x369005_3, .int .i64 x369006_3] 72 (0, 0))) ∧ Aside0 (Below w.heap.size w w'))
            case atStart => exact ⟨(0), (0), (0), (0), (0), (0), (0), (0), (by first | rfl | (simp; done) | (simp [*]; done)), H', ⟨Nat.le_refl _⟩, ⟨by (with_reducible repeat (first | apply Kd.R_alloc | apply Kd.R_drewN | apply Kd.R_drew)); exact Kd.R_mono HO363.out (fun _ hk => hk.2)⟩, ⟨by (with_reducible repeat (first | apply Kd.R_alloc | apply Kd.R_drewN | apply Kd.R_drew)); exact Kd.R_mono HO367.out (fun _ hk => hk.2)⟩, ⟨by exact zr0 HO_357002⟩, ⟨by exact zk0 BK339⟩, ⟨by exact zk0 BK340⟩, ⟨by exact zk0 BK341⟩, ⟨by exact zk0 BK342⟩, ⟨by exact zk0 BK343⟩, ⟨by exact zk0 BK344⟩, ⟨by exact zk0 BK351⟩, ⟨by exact zk0 BK356⟩, ⟨by exact zk0 BK359⟩, ⟨by exact zk0 BK368⟩, ⟨by exact zb0 HB⟩⟩
            case round =>
             clear H'
             try clear c1
             try clear c2
             try clear p2
             try clear q2
             try clear c3
             try clear q3
             try clear c4
             try clear q4
             try clear c5
             try clear c6
             try clear p6
             try clear c7
             try clear c8
             try clear c8b0
             try clear c8b1
             try clear c9
             try clear c10
             try clear c10b0
             try clear c10b1
             try clear c12
             try clear c14
             try clear c14b0
             try clear c14b1
             try clear c15
             try clear c15b0
             try clear c15b1
             try clear c17
             try clear c19
             try clear c22
             try clear c23
             try clear c24
             try clear c25
             try clear c26
             try clear c29
             try clear c30
             try clear c31
             try clear c32
             try clear c34
             try clear c35
             try clear c36
             try clear c38
             try clear c39
             try clear c43
             try clear c44
             try clear c45
             try clear c46
             try clear c47
             try clear c48
             try clear c50
             try clear c51
             try clear c64
             try clear p64
             try clear c66
             try clear c66b0
             try clear c68
             try clear c68b0
             try clear c72
             try clear c73
             try clear c74
             try clear c75
             try clear c76
             try clear c77
             try clear c78
             try clear c80
             try clear c81
             try clear c82
             try clear c83
             try clear c84
             try clear c85
             try clear c89
             try clear c90
             try clear c91
             try clear c92
             try clear c93
             try clear c94
             try clear c95
             try clear c96
             try clear hcz27_0
             try clear hcz27_1
             try clear hcz27_2
             try clear hcz33_0
             try clear hcz33_1
             try clear hcz33_2
             try clear hcz33_3
             try clear hcz37_0
             try clear hcz37_1
             try clear hcz37_2
             try clear hcz37_3
             try clear hcz40_0
             try clear hcz40_1
             try clear hcz40_2
             try clear hcz40_3
             try clear hcz49_0
             try clear hcz49_1
             try clear hcz49_2
             try clear hcz49_3
             try clear hcz50_0
             try clear hcz50_1
             try clear hcz50_2
             try clear hcz52_0
             try clear hcz52_1
             try clear hcz65_0
             try clear hcz65_1
             try clear hcz65_2
             try clear hcz65_3
             try clear hcz67_0
             try clear hcz67_1
             try clear hcz67_2
             try clear hcz67_3
             try clear hcz79_0
             try clear hcz79_1
             try clear hcz79_2
             try clear hcz79_3
             try clear hcz86_0
             try clear hcz86_1
             try clear hcz86_2
             try clear hcz86_3
             try clear hcz97_0
             try clear hcz97_1
             try clear hcz99_0
             try clear hcz99_1
             try clear hfz27_0
             try clear hfz27_1
             try clear hfz27_2
             try clear hfz33_0
             try clear hfz33_1
             try clear hfz33_2
             try clear hfz33_3
             try clear hfz37_0
             try clear hfz37_1
             try clear hfz37_2
             try clear hfz37_3
             try clear hfz40_0
             try clear hfz40_1
             try clear hfz40_2
             try clear hfz40_3
             try clear hfz49_0
             try clear hfz49_1
             try clear hfz49_2
             try clear hfz49_3
             try clear hfz50_0
             try clear hfz50_1
             try clear hfz50_2
             try clear hfz52_0
             try clear hfz52_1
             try clear hfz65_0
             try clear hfz65_1
             try clear hfz65_2
             try clear hfz65_3
             try clear hfz67_0
             try clear hfz67_1
             try clear hfz67_2
             try clear hfz67_3
             try clear hfz79_0
             try clear hfz79_1
             try clear hfz79_2
             try clear hfz79_3
             try clear hfz86_0
             try clear hfz86_1
             try clear hfz86_2
             try clear hfz86_3
             try clear hfz97_0
             try clear hfz97_1
             try clear hfz99_0
             try clear hfz99_1
             try clear p2
             try clear p6
             try clear p64
             try clear q2
             try clear q3
             try clear q4
             obtain ⟨x117_3, x369000_3, x369001_3, x369002_3, x369003_3, x369004_3, x369005_3, x369006_3, rfl, HA, HK3, HO_23, HO_115, HO_357002, BK339, BK340, BK341, BK342, BK343, BK344, BK351, BK356, BK359, BK368, HB⟩ := hrel
             cases gk with
             | zero => exact absurd HA.out (by simp [warp_Draw.l2])
             | succ k3 =>
              have H := HA.out
              clear HA
              simp only [warp_Draw.l2] at H
              by_cases c103 : x117_3 < (t365.length : Int)
              ·rw [if_pos c103] at H
               have c103b0 : decide (x117_3 < (t365.length : Int)) = true := decide_eq_true c103
               clear c103
               by_cases c104 : 0 ≤ x117_3
               ·rw [if_pos c104] at H
                have c104b0 : decide (0 ≤ x117_3) = true := decide_eq_true c104
                clear c104
                by_cases c105 : x117_3 < (t365.length : Int)
                ·rw [if_pos c105] at H
                 have c105b0 : decide (x117_3 < (t365.length : Int)) = true := decide_eq_true c105
                 clear c105
                 have H' := Aside0.mk H
                 clear H
                 have p383 : 0 ≤ (x117_3 : Int) := of_decide_eq_true (by first | (with_reducible assumption) | assumption)
                 have q383 : x117_3 < (t365.length : Int) := of_decide_eq_true (by first | (with_reducible assumption) | assumption)
                 obtain ⟨ad383, e383, hx383_0⟩ := Kd.at_int (Kd.R_reads' HO_115.out).2.2 x117_3 p383 q383
                 cases e383
                 replace p383 := eq_true p383
                 replace q383 := eq_true q383
                 obtain ⟨Ao106, co106, eo106⟩ := Kd.R_slice HO_23.out
                 subst eo106
                 go_wp2
                 go_loopg [124] k3 (fun kq v124 w' => ∃ (x124_4 : Int) (x369000_4 : Int) (x369001_4 : Int) (x369002_4 : Int) (x369003_4 : Int) (x369004_4 : Int) (x369005_4 : Int) (x369006_4 : Int), v124 = .int .i64 x124_4 ∧ Aside0 (warp_Draw.l3 kq a4 x19_1 x20_2 t360 t361 t364 x117_3 (rd t365 x117_3) t365 (t365.length : Int) x117_3 t361 (t361.length : Int) x124_4 a0_0 a0_1 l0_2 a1_0 a1_1 a2_0 a2_1 a2_2 a2_3 a3_0 a3_1 a3_2 l3_3 a5_0 a5_1 a5_2 a5_3 a5_2 a5_3 x357002_2 x369000_4 x369001_4 x369002_4 x369003_4 x369004_4 x369005_4 x369006_4 = some (r1, r2, r3, r4)) ∧ Aside0 (kq ≤ k3) ∧ Aside0 (Kd.R (Kd.int .i64) 3 w' w.heap.size (fun k_ => some k_ ≠ ((.slice (some ad383) t365.length co102) : Value).ownBlock) (.slice Ao106 t361.length co106) t361) ∧ Aside0 (Kd.R (Kd.int .i64) 3 w' w.heap.size (fun k_ => some k_ ≠ ((.slice Ao106 t361.length co106) : Value).ownBlock ∧ some k_ ≠ ((.slice Ao106 t361.length co106) : Value).ownBlock) (.slice (some ad383) t365.length co102) t365) ∧ Aside0 (Kd.R (Kd.int .i64) 3 w' w.heap.size (fun k_ => some k_ ≠ ((.slice (some ad383) t365.length co102) : Value).ownBlock) (.slice Ao106 t361.length co106) t361) ∧ Aside0 (Kd.R k48 48 w' w.heap.size (fun _ => True) u357002 x357002_2) ∧ Aside0 (w'.heap[gb339]? = some (.cells #[.int .i64 a0_0, .int .i64 a0_1, (.slice A0_2 l0_2.length c0_2)] 40 (0, 0))) ∧ Aside0 (w'.heap[gb340]? = some (.cells #[.int .i64 a1_0, .int .i64 a1_1] 28 (0, 0))) ∧ Aside0 (w'.heap[gb341]? = some (.cells #[.int .i64 a2_0, .int .i64 a2_1, .int .i64 a2_2, .int .i64 a2_3] 34 (0, 0))) ∧ Aside0 (w'.heap[gb342]? = some (.cells #[.int .i64 a3_0, .int .i64 a3_1, .int .i64 a3_2, (.slice A3_3 l3_3.length c3_3)] 24 (0, 0))) ∧ Aside0 (w'.heap[gb343]? = some (.cells #[.int .i64 a5_0, .int .i64 a5_1, .int .i64 a5_2, .int .i64 a5_3] 34 (0, 0))) ∧ Aside0 (w'.heap[gb344]? = some (.cells #[.int .i64 0, .int .i64 0, (.slice none 0 0)] 40 (0, 0))) ∧ Aside0 (w'.heap[gb351]? = some (.cells #[.int .i64 t346, .int .i64 t347, .int .i64 t348, .int .i64 t349] 34 (0, 0))) ∧ Aside0 (w'.heap[gb356]? = some (.cells #[.int .i64 a5_2, .int .i64 a5_3, u357002] 40 (0, 0))) ∧ Aside0 (w'.heap[gb359]? = some (.cells #[.int .i64 t357, .int .i64 t358] 28 (0, 0))) ∧ Aside0 (w'.heap[gb368]? = some (.cells #[.int .i64 x369000_4, .int .i64 x369001_4, .int .i64 x369002_4, .int .i64 x369003_4, .int .i64 x369004_4, .int .i64 x369005_4, .int .i64 x369006_4] 72 (0, 0))) ∧ Aside0 (Below w.heap.size w w'))
                 case atStart => exact ⟨(0), (x369000_3), (x369001_3), (x369002_3), (x369003_3), (x369004_3), (x369005_3), (x369006_3), (by first | rfl | (simp; done) | (simp [*]; done)), H', ⟨Nat.le_refl _⟩, ⟨by exact zr0 HO_23⟩, ⟨by (with_reducible repeat (first | apply Kd.R_alloc | apply Kd.R_drewN | apply Kd.R_drew)); exact Kd.R_mono HO_115.out (fun _ hk => ⟨hk, hk⟩)⟩, ⟨by exact zr0 HO_23⟩, ⟨by exact zr0 HO_357002⟩, ⟨by exact zk0 BK339⟩, ⟨by exact zk0 BK340⟩, ⟨by exact zk0 BK341⟩, ⟨by exact zk0 BK342⟩, ⟨by exact zk0 BK343⟩, ⟨by exact zk0 BK344⟩, ⟨by exact zk0 BK351⟩, ⟨by exact zk0 BK356⟩, ⟨by exact zk0 BK359⟩, ⟨by exact zk0 BK368⟩, ⟨by exact zb0 HB⟩⟩
                 case round =>
                  clear H'
                  try clear c1
                  try clear c2
                  try clear p2
                  try clear q2
                  try clear c3
                  try clear p3
                  try clear q3
                  try clear hx3
                  try clear c4
                  try clear q4
                  try clear c5
                  try clear c6
                  try clear p6
                  try clear c7
                  try clear c8
                  try clear c8b0
                  try clear c8b1
                  try clear c9
                  try clear c10
                  try clear c10b0
                  try clear c10b1
                  try clear c12
                  try clear c14
                  try clear c14b0
                  try clear c14b1
                  try clear c15
                  try clear c15b0
                  try clear c15b1
                  try clear c17
                  try clear c19
                  try clear c22
                  try clear c23
                  try clear c24
                  try clear c25
                  try clear c26
                  try clear c29
                  try clear c30
                  try clear c31
                  try clear c32
                  try clear c34
                  try clear c35
                  try clear c36
                  try clear c38
                  try clear p38
                  try clear q38
                  try clear hx38
                  try clear c39
                  try clear c43
                  try clear c44
                  try clear c45
                  try clear c46
                  try clear c47
                  try clear c48
                  try clear c50
                  try clear c51
                  try clear c64
                  try clear p64
                  try clear c66
                  try clear c66b0
                  try clear c68
                  try clear c68b0
                  try clear c72
                  try clear c73
                  try clear c74
                  try clear c75
                  try clear c76
                  try clear c77
                  try clear c78
                  try clear c80
                  try clear c81
                  try clear c82
                  try clear c83
                  try clear c84
                  try clear c85
                  try clear c89
                  try clear c90
                  try clear c91
                  try clear c92
                  try clear c93
                  try clear c94
                  try clear c95
                  try clear c96
                  try clear c103
                  try clear c103b0
                  try clear c104
                  try clear c104b0
                  try clear c105
                  try clear c105b0
                  try clear hcz27_0
                  try clear hcz27_1
                  try clear hcz27_2
                  try clear hcz33_0
                  try clear hcz33_1
                  try clear hcz33_2
                  try clear hcz33_3
                  try clear hcz37_0
                  try clear hcz37_1
                  try clear hcz37_2
                  try clear hcz37_3
                  try clear hcz40_0
                  try clear hcz40_1
                  try clear hcz40_2
                  try clear hcz40_3
                  try clear hcz49_0
                  try clear hcz49_1
                  try clear hcz49_2
                  try clear hcz49_3
                  try clear hcz50_0
                  try clear hcz50_1
                  try clear hcz50_2
                  try clear hcz52_0
                  try clear hcz52_1
                  try clear hcz65_0
                  try clear hcz65_1
                  try clear hcz65_2
                  try clear hcz65_3
                  try clear hcz67_0
                  try clear hcz67_1
                  try clear hcz67_2
                  try clear hcz67_3
                  try clear hcz79_0
                  try clear hcz79_1
                  try clear hcz79_2
                  try clear hcz79_3
                  try clear hcz86_0
                  try clear hcz86_1
                  try clear hcz86_2
                  try clear hcz86_3
                  try clear hcz97_0
                  try clear hcz97_1
                  try clear hcz99_0
                  try clear hcz99_1
                  try clear hfz27_0
                  try clear hfz27_1
                  try clear hfz27_2
                  try clear hfz33_0
                  try clear hfz33_1
                  try clear hfz33_2
                  try clear hfz33_3
                  try clear hfz37_0
                  try clear hfz37_1
                  try clear hfz37_2
                  try clear hfz37_3
                  try clear hfz40_0
                  try clear hfz40_1
                  try clear hfz40_2
                  try clear hfz40_3
                  try clear hfz49_0
                  try clear hfz49_1
                  try clear hfz49_2
                  try clear hfz49_3
                  try clear hfz50_0
                  try clear hfz50_1
                  try clear hfz50_2
                  try clear hfz52_0
                  try clear hfz52_1
                  try clear hfz65_0
                  try clear hfz65_1
                  try clear hfz65_2
                  try clear hfz65_3
                  try clear hfz67_0
                  try clear hfz67_1
                  try clear hfz67_2
                  try clear hfz67_3
                  try clear hfz79_0
                  try clear hfz79_1
                  try clear hfz79_2
                  try clear hfz79_3
                  try clear hfz86_0
                  try clear hfz86_1
                  try clear hfz86_2
                  try clear hfz86_3
                  try clear hfz97_0
                  try clear hfz97_1
                  try clear hfz99_0
                  try clear hfz99_1
                  try clear hx383_0
                  try clear p2
                  try clear p383
                  try clear p6
                  try clear p64
                  try clear q2
                  try clear q3
                  try clear q383
                  try clear q4
                  obtain ⟨x124_4, x369000_4, x369001_4, x369002_4, x369003_4, x369004_4, x369005_4, x369006_4, rfl, HA, HK4, HO_23, HO_115, HO_122, HO_357002, BK339, BK340, BK341, BK342, BK343, BK344, BK351, BK356, BK359, BK368, HB⟩ := hrel
                  cases gk with
                  | zero => exact absurd HA.out (by simp [warp_Draw.l3])
                  | succ k4 =>
                   have H := HA.out
                   clear HA
                   simp only [warp_Draw.l3] at H
                   by_cases c107 : x124_4 < (t361.length : Int)
                   ·rw [if_pos c107] at H
                    have c107b0 : decide (x124_4 < (t361.length : Int)) = true := decide_eq_true c107
                    clear c107
                    by_cases c108 : 0 ≤ x124_4
                    ·rw [if_pos c108] at H
                     have c108b0 : decide (0 ≤ x124_4) = true := decide_eq_true c108
                     clear c108
                     by_cases c109 : x124_4 < (t361.length : Int)
                     ·rw [if_pos c109] at H
                      have c109b0 : decide (x124_4 < (t361.length : Int)) = true := decide_eq_true c109
                      clear c109
                      replace H := Option.bind_eq_some_iff.mp H
                      obtain ⟨⟨t385, t386, t387, t388⟩, A1100, H⟩ := H
                      replace H : ((warp_sums_add.f x369000_4 x369001_4 x369002_4 x369003_4 x369004_4 x369005_4 x369006_4 t385 t386 t387 t388 (wrap64 ((rd t361 x124_4) * (rd t365 x117_3)))).bind fun bt389 => (warp_Draw.l3 k4 a4 x19_1 x20_2 t360 t361 t364 x117_3 (rd t365 x117_3) t365 (t365.length : Int) x117_3 t361 (t361.length : Int) (wrap64 (x124_4 + 1)) a0_0 a0_1 l0_2 a1_0 a1_1 a2_0 a2_1 a2_2 a2_3 a3_0 a3_1 a3_2 l3_3 a5_0 a5_1 a5_2 a5_3 a5_2 a5_3 x357002_2 bt389.1 bt389.2.1 bt389.2.2.1 bt389.2.2.2.1 bt389.2.2.2.2.1 bt389.2.2.2.2.2.1 bt389.2.2.2.2.2.2)) = some (r1, r2, r3, r4) := H
                      have A110 := Aside0.mk A1100
                      clear A1100
                      replace H := Option.bind_eq_some_iff.mp H
                      obtain ⟨⟨t389, t390, t391, t392, t393, t394, t395⟩, A1110, H⟩ := H
                      replace H : (warp_Draw.l3 k4 a4 x19_1 x20_2 t360 t361 t364 x117_3 (rd t365 x117_3) t365 (t365.length : Int) x117_3 t361 (t361.length : Int) (wrap64 (x124_4 + 1)) a0_0 a0_1 l0_2 a1_0 a1_1 a2_0 a2_1 a2_2 a2_3 a3_0 a3_1 a3_2 l3_3 a5_0 a5_1 a5_2 a5_3 a5_2 a5_3 x357002_2 t389 t390 t391 t392 t393 t394 t395) = some (r1, r2, r3, r4) := H
                      have A111 := Aside0.mk A1110
                      clear A1110
                      as_aux_lemma =>
                       have H' := Aside0.mk H
                       clear H
                       have p384 : 0 ≤ (x124_4 : Int) := of_decide_eq_true (by first | (with_reducible assumption) | assumption)
                       have q384 : x124_4 < (t361.length : Int) := of_decide_eq_true (by first | (with_reducible assumption) | assumption)
                       obtain ⟨ad384, e384, hx384_0⟩ := Kd.at_int (Kd.R_reads' HO_122.out).2.2 x124_4 p384 q384
                       cases e384
                       replace p384 := eq_true p384
                       replace q384 := eq_true q384
                       go_wp2_with (first | ((with_reducible refine gate_calleeT (t := 129) rfl ?_); refine goesLT_ (some 136) rfl rfl Try.func48 (by kernel_rfl) rfl #[.pointer (some ⟨gb341, 0, none⟩), .pointer (some ⟨gb340, 0, none⟩), .pointer (some ⟨gb339, 0, none⟩)] #[.int .i64 (wrap64 (t360 + x124_4)), .int .i64 (wrap64 (t364 + x117_3)), .pointer (some ⟨gb341, 0, none⟩), .pointer (some ⟨gb340, 0, none⟩), .pointer (some ⟨gb339, 0, none⟩)] rfl (by first | rfl | (go_simp; done) | (go_simp; rfl)) (by (try simp only [List.map_toArray, List.map_cons, List.map_nil]); first | done | rfl | (go_simp; done) | (go_simp; rfl)) ?_; (with_reducible refine (warp_Draw_1.calls (wrap64 (t360 + x124_4)) (wrap64 (t364 + x117_3)) gb341 a2_0 a2_1 a2_2 a2_3 gb340 a1_0 a1_1 gb339 a0_0 a0_1 A0_2 c0_2 l0_2 t385 t386 t387 t388 _ ?side1 ?side2 ?side3 ?side4 ?side5 A110.out).mono ?_); (case side1 => exact zk0 BK341); (case side2 => exact zk0 BK340); (case side3 => exact zk0 BK339); (case side4 => repeat (first | exact (Kd.C_below HR0_2.out HB.out) | (with_reducible refine Kd.C_alloc ?_ _) | (with_reducible refine Kd.C_drewN ?_ _) | (with_reducible refine Kd.C_drew ?_))); (case side5 => exact HC0_2.out); rintro e w112 ⟨rfl, hb⟩; refine ⟨_, rfl, ?_⟩; replace HO_23 := zr HO_23 hb; replace HO_115 := zr HO_115 hb; replace HO_122 := zr HO_122 hb; replace HO_357002 := zr HO_357002 hb; replace BK339 := zk BK339 hb; replace BK340 := zk BK340 hb; replace BK341 := zk BK341 hb; replace BK342 := zk BK342 hb; replace BK343 := zk BK343 hb; replace BK344 := zk BK344 hb; replace BK351 := zk BK351 hb; replace BK356 := zk BK356 hb; replace BK359 := zk BK359 hb; replace BK368 := zk BK368 hb; replace HB := zb HB hb; (try clear hb); (try clear hb2); (try clear hk); (try clear hi); have HI368 := Aside0.mk (show IsS72 w _ gb368 x369000_4 x369001_4 x369002_4 x369003_4 x369004_4 x369005_4 x369006_4 from ⟨BK368.out, GE368.out⟩)) | ((with_reducible refine gate_callee (f := 51) rfl ?_); refine goesL_ (some 140) rfl rfl Try.func51 (by kernel_rfl) rfl #[.pointer (some ⟨gb368, 0, none⟩), .agg #[.int .i64 t385, .int .i64 t386, .int .i64 t387, .int .i64 t388], .int .i64 (wrap64 ((rd t361 x124_4) * (rd t365 x117_3)))] rfl (by (try simp only [List.map_toArray, List.map_cons, List.map_nil]); first | done | rfl | (simp only [List.length_drop, List.length_take]; rfl)) ?_; (with_reducible refine (warp_sums_add.calls gb368 x369000_4 x369001_4 x369002_4 x369003_4 x369004_4 x369005_4 x369006_4 t385 t386 t387 t388 (wrap64 ((rd t361 x124_4) * (rd t365 x117_3))) t389 t390 t391 t392 t393 t394 t395 w _ ?side1 ?side2 A111.out).mono ?_); (case side1 => repeat (first | (with_reducible first | exact HI368.out | apply IsS72.alloc | apply IsS72.drewN | apply IsS72.drew | apply IsS72.set_0 | apply IsS72.set_1 | apply IsS72.set_2 | apply IsS72.set_3 | apply IsS72.set_4 | apply IsS72.set_5 | apply IsS72.set_6 | refine IsS72.far ?_ NB368_339.out _ | refine IsS72.far ?_ NB368_340.out _ | refine IsS72.far ?_ NB368_341.out _ | refine IsS72.far ?_ NB368_342.out _ | refine IsS72.far ?_ NB368_343.out _ | refine IsS72.far ?_ NB368_344.out _ | refine IsS72.far ?_ NB368_351.out _ | refine IsS72.far ?_ NB368_356.out _ | refine IsS72.far ?_ NB368_359.out _) | exact HI368.out)); (case side2 => exact zb0 HB); rintro e w113 ⟨rfl, hi, hb, hk⟩; refine ⟨_, rfl, ?_⟩; have n0_ := Aside0.mk (Kd.R_mono (Kd.R_keep (IsS72.apart (show IsS72 w _ gb368 x369000_4 x369001_4 x369002_4 x369003_4 x369004_4 x369005_4 x369006_4 from by repeat (first | (with_reducible first | exact HI368.out | apply IsS72.alloc | apply IsS72.drewN | apply IsS72.drew | apply IsS72.set_0 | apply IsS72.set_1 | apply IsS72.set_2 | apply IsS72.set_3 | apply IsS72.set_4 | apply IsS72.set_5 | apply IsS72.set_6 | refine IsS72.far ?_ NB368_339.out _ | refine IsS72.far ?_ NB368_340.out _ | refine IsS72.far ?_ NB368_341.out _ | refine IsS72.far ?_ NB368_342.out _ | refine IsS72.far ?_ NB368_343.out _ | refine IsS72.far ?_ NB368_344.out _ | refine IsS72.far ?_ NB368_351.out _ | refine IsS72.far ?_ NB368_356.out _ | refine IsS72.far ?_ NB368_359.out _) | exact HI368.out)) (by exact zr0 HO_23) (by decide)) hk (fun _ h => h.2)) (fun _ h => h.1)); have n1_ := Aside0.mk (Kd.R_mono (Kd.R_keep (IsS72.apart (show IsS72 w _ gb368 x369000_4 x369001_4 x369002_4 x369003_4 x369004_4 x369005_4 x369006_4 from by repeat (first | (with_reducible first | exact HI368.out | apply IsS72.alloc | apply IsS72.drewN | apply IsS72.drew | apply IsS72.set_0 | apply IsS72.set_1 | apply IsS72.set_2 | apply IsS72.set_3 | apply IsS72.set_4 | apply IsS72.set_5 | apply IsS72.set_6 | refine IsS72.far ?_ NB368_339.out _ | refine IsS72.far ?_ NB368_340.out _ | refine IsS72.far ?_ NB368_341.out _ | refine IsS72.far ?_ NB368_342.out _ | refine IsS72.far ?_ NB368_343.out _ | refine IsS72.far ?_ NB368_344.out _ | refine IsS72.far ?_ NB368_351.out _ | refine IsS72.far ?_ NB368_356.out _ | refine IsS72.far ?_ NB368_359.out _) | exact HI368.out)) (by exact zr0 HO_115) (by decide)) hk (fun _ h => h.2)) (fun _ h => h.1)); have n2_ := Aside0.mk (Kd.R_mono (Kd.R_keep (IsS72.apart (show IsS72 w _ gb368 x369000_4 x369001_4 x369002_4 x369003_4 x369004_4 x369005_4 x369006_4 from by repeat (first | (with_reducible first | exact HI368.out | apply IsS72.alloc | apply IsS72.drewN | apply IsS72.drew | apply IsS72.set_0 | apply IsS72.set_1 | apply IsS72.set_2 | apply IsS72.set_3 | apply IsS72.set_4 | apply IsS72.set_5 | apply IsS72.set_6 | refine IsS72.far ?_ NB368_339.out _ | refine IsS72.far ?_ NB368_340.out _ | refine IsS72.far ?_ NB368_341.out _ | refine IsS72.far ?_ NB368_342.out _ | refine IsS72.far ?_ NB368_343.out _ | refine IsS72.far ?_ NB368_344.out _ | refine IsS72.far ?_ NB368_351.out _ | refine IsS72.far ?_ NB368_356.out _ | refine IsS72.far ?_ NB368_359.out _) | exact HI368.out)) (by exact zr0 HO_122) (by decide)) hk (fun _ h => h.2)) (fun _ h => h.1)); have n3_ := Aside0.mk (Kd.R_mono (Kd.R_keep (IsS72.apart (show IsS72 w _ gb368 x369000_4 x369001_4 x369002_4 x369003_4 x369004_4 x369005_4 x369006_4 from by repeat (first | (with_reducible first | exact HI368.out | apply IsS72.alloc | apply IsS72.drewN | apply IsS72.drew | apply IsS72.set_0 | apply IsS72.set_1 | apply IsS72.set_2 | apply IsS72.set_3 | apply IsS72.set_4 | apply IsS72.set_5 | apply IsS72.set_6 | refine IsS72.far ?_ NB368_339.out _ | refine IsS72.far ?_ NB368_340.out _ | refine IsS72.far ?_ NB368_341.out _ | refine IsS72.far ?_ NB368_342.out _ | refine IsS72.far ?_ NB368_343.out _ | refine IsS72.far ?_ NB368_344.out _ | refine IsS72.far ?_ NB368_351.out _ | refine IsS72.far ?_ NB368_356.out _ | refine IsS72.far ?_ NB368_359.out _) | exact HI368.out)) (by exact zr0 HO_357002) (by decide)) hk (fun _ h => h.2)) (fun _ h => h.1)); have n4_ := Aside0.mk (KeepBut.blk hk (zk0 BK339) (Ne.symm (IsS72.ne_blk (show IsS72 w _ gb368 x369000_4 x369001_4 x369002_4 x369003_4 x369004_4 x369005_4 x369006_4 from by repeat (first | (with_reducible first | exact HI368.out | apply IsS72.alloc | apply IsS72.drewN | apply IsS72.drew | apply IsS72.set_0 | apply IsS72.set_1 | apply IsS72.set_2 | apply IsS72.set_3 | apply IsS72.set_4 | apply IsS72.set_5 | apply IsS72.set_6 | refine IsS72.far ?_ NB368_339.out _ | refine IsS72.far ?_ NB368_340.out _ | refine IsS72.far ?_ NB368_341.out _ | refine IsS72.far ?_ NB368_342.out _ | refine IsS72.far ?_ NB368_343.out _ | refine IsS72.far ?_ NB368_344.out _ | refine IsS72.far ?_ NB368_351.out _ | refine IsS72.far ?_ NB368_356.out _ | refine IsS72.far ?_ NB368_359.out _) | exact HI368.out)) (zk0 BK339) (by decide))) (by simp)); have n5_ := Aside0.mk (KeepBut.blk hk (zk0 BK340) (Ne.symm (IsS72.ne_blk (show IsS72 w _ gb368 x369000_4 x369001_4 x369002_4 x369003_4 x369004_4 x369005_4 x369006_4 from by repeat (first | (with_reducible first | exact HI368.out | apply IsS72.alloc | apply IsS72.drewN | apply IsS72.drew | apply IsS72.set_0 | apply IsS72.set_1 | apply IsS72.set_2 | apply IsS72.set_3 | apply IsS72.set_4 | apply IsS72.set_5 | apply IsS72.set_6 | refine IsS72.far ?_ NB368_339.out _ | refine IsS72.far ?_ NB368_340.out _ | refine IsS72.far ?_ NB368_341.out _ | refine IsS72.far ?_ NB368_342.out _ | refine IsS72.far ?_ NB368_343.out _ | refine IsS72.far ?_ NB368_344.out _ | refine IsS72.far ?_ NB368_351.out _ | refine IsS72.far ?_ NB368_356.out _ | refine IsS72.far ?_ NB368_359.out _) | exact HI368.out)) (zk0 BK340) (by decide))) (by simp)); have n6_ := Aside0.mk (KeepBut.blk hk (zk0 BK341) (Ne.symm (IsS72.ne_blk (show IsS72 w _ gb368 x369000_4 x369001_4 x369002_4 x369003_4 x369004_4 x369005_4 x369006_4 from by repeat (first | (with_reducible first | exact HI368.out | apply IsS72.alloc | apply IsS72.drewN | apply IsS72.drew | apply IsS72.set_0 | apply IsS72.set_1 | apply IsS72.set_2 | apply IsS72.set_3 | apply IsS72.set_4 | apply IsS72.set_5 | apply IsS72.set_6 | refine IsS72.far ?_ NB368_339.out _ | refine IsS72.far ?_ NB368_340.out _ | refine IsS72.far ?_ NB368_341.out _ | refine IsS72.far ?_ NB368_342.out _ | refine IsS72.far ?_ NB368_343.out _ | refine IsS72.far ?_ NB368_344.out _ | refine IsS72.far ?_ NB368_351.out _ | refine IsS72.far ?_ NB368_356.out _ | refine IsS72.far ?_ NB368_359.out _) | exact HI368.out)) (zk0 BK341) (by decide))) (by simp)); have n7_ := Aside0.mk (KeepBut.blk hk (zk0 BK342) (Ne.symm (IsS72.ne_blk (show IsS72 w _ gb368 x369000_4 x369001_4 x369002_4 x369003_4 x369004_4 x369005_4 x369006_4 from by repeat (first | (with_reducible first | exact HI368.out | apply IsS72.alloc | apply IsS72.drewN | apply IsS72.drew | apply IsS72.set_0 | apply IsS72.set_1 | apply IsS72.set_2 | apply IsS72.set_3 | apply IsS72.set_4 | apply IsS72.set_5 | apply IsS72.set_6 | refine IsS72.far ?_ NB368_339.out _ | refine IsS72.far ?_ NB368_340.out _ | refine IsS72.far ?_ NB368_341.out _ | refine IsS72.far ?_ NB368_342.out _ | refine IsS72.far ?_ NB368_343.out _ | refine IsS72.far ?_ NB368_344.out _ | refine IsS72.far ?_ NB368_351.out _ | refine IsS72.far ?_ NB368_356.out _ | refine IsS72.far ?_ NB368_359.out _) | exact HI368.out)) (zk0 BK342) (by decide))) (by simp)); have n8_ := Aside0.mk (KeepBut.blk hk (zk0 BK343) (Ne.symm (IsS72.ne_blk (show IsS72 w _ gb368 x369000_4 x369001_4 x369002_4 x369003_4 x369004_4 x369005_4 x369006_4 from by repeat (first | (with_reducible first | exact HI368.out | apply IsS72.alloc | apply IsS72.drewN | apply IsS72.drew | apply IsS72.set_0 | apply IsS72.set_1 | apply IsS72.set_2 | apply IsS72.set_3 | apply IsS72.set_4 | apply IsS72.set_5 | apply IsS72.set_6 | refine IsS72.far ?_ NB368_339.out _ | refine IsS72.far ?_ NB368_340.out _ | refine IsS72.far ?_ NB368_341.out _ | refine IsS72.far ?_ NB368_342.out _ | refine IsS72.far ?_ NB368_343.out _ | refine IsS72.far ?_ NB368_344.out _ | refine IsS72.far ?_ NB368_351.out _ | refine IsS72.far ?_ NB368_356.out _ | refine IsS72.far ?_ NB368_359.out _) | exact HI368.out)) (zk0 BK343) (by decide))) (by simp)); have n9_ := Aside0.mk (KeepBut.blk hk (zk0 BK344) (Ne.symm (IsS72.ne_blk (show IsS72 w _ gb368 x369000_4 x369001_4 x369002_4 x369003_4 x369004_4 x369005_4 x369006_4 from by repeat (first | (with_reducible first | exact HI368.out | apply IsS72.alloc | apply IsS72.drewN | apply IsS72.drew | apply IsS72.set_0 | apply IsS72.set_1 | apply IsS72.set_2 | apply IsS72.set_3 | apply IsS72.set_4 | apply IsS72.set_5 | apply IsS72.set_6 | refine IsS72.far ?_ NB368_339.out _ | refine IsS72.far ?_ NB368_340.out _ | refine IsS72.far ?_ NB368_341.out _ | refine IsS72.far ?_ NB368_342.out _ | refine IsS72.far ?_ NB368_343.out _ | refine IsS72.far ?_ NB368_344.out _ | refine IsS72.far ?_ NB368_351.out _ | refine IsS72.far ?_ NB368_356.out _ | refine IsS72.far ?_ NB368_359.out _) | exact HI368.out)) (zk0 BK344) (by decide))) (by simp)); have n10_ := Aside0.mk (KeepBut.blk hk (zk0 BK351) (Ne.symm (IsS72.ne_blk (show IsS72 w _ gb368 x369000_4 x369001_4 x369002_4 x369003_4 x369004_4 x369005_4 x369006_4 from by repeat (first | (with_reducible first | exact HI368.out | apply IsS72.alloc | apply IsS72.drewN | apply IsS72.drew | apply IsS72.set_0 | apply IsS72.set_1 | apply IsS72.set_2 | apply IsS72.set_3 | apply IsS72.set_4 | apply IsS72.set_5 | apply IsS72.set_6 | refine IsS72.far ?_ NB368_339.out _ | refine IsS72.far ?_ NB368_340.out _ | refine IsS72.far ?_ NB368_341.out _ | refine IsS72.far ?_ NB368_342.out _ | refine IsS72.far ?_ NB368_343.out _ | refine IsS72.far ?_ NB368_344.out _ | refine IsS72.far ?_ NB368_351.out _ | refine IsS72.far ?_ NB368_356.out _ | refine IsS72.far ?_ NB368_359.out _) | exact HI368.out)) (zk0 BK351) (by decide))) (by simp)); have n11_ := Aside0.mk (KeepBut.blk hk (zk0 BK356) (Ne.symm (IsS72.ne_blk (show IsS72 w _ gb368 x369000_4 x369001_4 x369002_4 x369003_4 x369004_4 x369005_4 x369006_4 from by repeat (first | (with_reducible first | exact HI368.out | apply IsS72.alloc | apply IsS72.drewN | apply IsS72.drew | apply IsS72.set_0 | apply IsS72.set_1 | apply IsS72.set_2 | apply IsS72.set_3 | apply IsS72.set_4 | apply IsS72.set_5 | apply IsS72.set_6 | refine IsS72.far ?_ NB368_339.out _ | refine IsS72.far ?_ NB368_340.out _ | refine IsS72.far ?_ NB368_341.out _ | refine IsS72.far ?_ NB368_342.out _ | refine IsS72.far ?_ NB368_343.out _ | refine IsS72.far ?_ NB368_344.out _ | refine IsS72.far ?_ NB368_351.out _ | refine IsS72.far ?_ NB368_356.out _ | refine IsS72.far ?_ NB368_359.out _) | exact HI368.out)) (zk0 BK356) (by decide))) (by simp)); have n12_ := Aside0.mk (KeepBut.blk hk (zk0 BK359) (Ne.symm (IsS72.ne_blk (show IsS72 w _ gb368 x369000_4 x369001_4 x369002_4 x369003_4 x369004_4 x369005_4 x369006_4 from by repeat (first | (with_reducible first | exact HI368.out | apply IsS72.alloc | apply IsS72.drewN | apply IsS72.drew | apply IsS72.set_0 | apply IsS72.set_1 | apply IsS72.set_2 | apply IsS72.set_3 | apply IsS72.set_4 | apply IsS72.set_5 | apply IsS72.set_6 | refine IsS72.far ?_ NB368_339.out _ | refine IsS72.far ?_ NB368_340.out _ | refine IsS72.far ?_ NB368_341.out _ | refine IsS72.far ?_ NB368_342.out _ | refine IsS72.far ?_ NB368_343.out _ | refine IsS72.far ?_ NB368_344.out _ | refine IsS72.far ?_ NB368_351.out _ | refine IsS72.far ?_ NB368_356.out _ | refine IsS72.far ?_ NB368_359.out _) | exact HI368.out)) (zk0 BK359) (by decide))) (by simp)); have n13_ := Aside0.mk (hb); have n14_ := Aside0.mk (hi.1); clear HO_23; clear HO_115; clear HO_122; clear HO_357002; clear BK339; clear BK340; clear BK341; clear BK342; clear BK343; clear BK344; clear BK351; clear BK356; clear BK359; clear HB; clear BK368; clear HI368; have HO_23 := n0_; have HO_115 := n1_; have HO_122 := n2_; have HO_357002 := n3_; have BK339 := n4_; have BK340 := n5_; have BK341 := n6_; have BK342 := n7_; have BK343 := n8_; have BK344 := n9_; have BK351 := n10_; have BK356 := n11_; have BK359 := n12_; have HB := n13_; have BK368 := n14_; clear n0_ n1_ n2_ n3_ n4_ n5_ n6_ n7_ n8_ n9_ n10_ n11_ n12_ n13_ n14_; (try clear hb); (try clear hb2); (try clear hk); (try clear hi)))
                       first | go_roundg k4 | ((try subst hji13); go_roundg k4)
                       case measure => have := HK1.out; have := HK2.out; have := HK3.out; have := HK4.out; omega
                       case rel => first | (exact ⟨(wrap64 (x124_4 + 1)), (t389), (t390), (t391), (t392), (t393), (t394), (t395), (by first | rfl | (simp; done) | (simp [*]; done)), H', ⟨by have := HK1.out; have := HK2.out; have := HK3.out; have := HK4.out; omega⟩, ⟨by exact zr0 HO_23⟩, ⟨by exact zr0 HO_115⟩, ⟨by exact zr0 HO_122⟩, ⟨by exact zr0 HO_357002⟩, ⟨by exact zk0 BK339⟩, ⟨by exact zk0 BK340⟩, ⟨by exact zk0 BK341⟩, ⟨by exact zk0 BK342⟩, ⟨by exact zk0 BK343⟩, ⟨by exact zk0 BK344⟩, ⟨by exact zk0 BK351⟩, ⟨by exact zk0 BK356⟩, ⟨by exact zk0 BK359⟩, ⟨by exact zk0 BK368⟩, ⟨by exact zb0 HB⟩⟩) | (exact ⟨(wrap64 (x124_4 + 1)), (t389), (t390), (t391), (t392), (t393), (t394), (t395), (by first | rfl | (simp; done) | (simp [*]; done)), H', ⟨by have := HK1.out; have := HK2.out; have := HK3.out; have := HK4.out; omega⟩, ⟨by exact zr0 HO_23⟩, ⟨by exact zr0 HO_115⟩, ⟨by exact zr0 HO_122⟩, ⟨by exact zr0 HO_357002⟩, ⟨by exact zk0 BK339⟩, ⟨by exact zk0 BK340⟩, ⟨by exact zk0 BK341⟩, ⟨by exact zk0 BK342⟩, ⟨by exact zk0 BK343⟩, ⟨by exact zk0 BK344⟩, ⟨by exact zk0 BK351⟩, ⟨by exact zk0 BK356⟩, ⟨by exact zk0 BK359⟩, ⟨by exact zk0 BK368⟩, ⟨by exact zb0 HB⟩⟩)
                     ·rw [if_neg c109] at H
                      exact absurd H (by simp)
                    ·rw [if_neg c108] at H
                     exact absurd H (by simp)
                   ·rw [if_neg c107] at H
                    have c107b0 : decide (x124_4 < (t361.length : Int)) = false := decide_eq_false c107
                    clear c107
                    as_aux_lemma =>
                     have H' := Aside0.mk H
                     clear H
                     go_wp2
                     first | go_roundg k4 | ((try subst hji13); go_roundg k4)
                     case measure => have := HK1.out; have := HK2.out; have := HK3.out; have := HK4.out; omega
                     case rel => first | (exact ⟨(wrap64 (x117_3 + 1)), (x369000_4), (x369001_4), (x369002_4), (x369003_4), (x369004_4), (x369005_4), (x369006_4), (by first | rfl | (simp; done) | (simp [*]; done)), H', ⟨by have := HK1.out; have := HK2.out; have := HK3.out; have := HK4.out; omega⟩, ⟨by exact zr0 HO_23⟩, ⟨by (with_reducible repeat (first | apply Kd.R_alloc | apply Kd.R_drewN | apply Kd.R_drew)); exact Kd.R_mono HO_115.out (fun _ hk => hk.1)⟩, ⟨by exact zr0 HO_357002⟩, ⟨by exact zk0 BK339⟩, ⟨by exact zk0 BK340⟩, ⟨by exact zk0 BK341⟩, ⟨by exact zk0 BK342⟩, ⟨by exact zk0 BK343⟩, ⟨by exact zk0 BK344⟩, ⟨by exact zk0 BK351⟩, ⟨by exact zk0 BK356⟩, ⟨by exact zk0 BK359⟩, ⟨by exact zk0 BK368⟩, ⟨by exact zb0 HB⟩⟩) | (exact ⟨(wrap64 (x117_3 + 1)), (x369000_4), (x369001_4), (x369002_4), (x369003_4), (x369004_4), (x369005_4), (x369006_4), (by first | rfl | (simp; done) | (simp [*]; done)), H', ⟨by have := HK1.out; have := HK2.out; have := HK3.out; have := HK4.out; omega⟩, ⟨by exact zr0 HO_23⟩, ⟨by (with_reducible repeat (first | apply Kd.R_alloc | apply Kd.R_drewN | apply Kd.R_drew)); exact Kd.R_mono HO_115.out (fun _ hk => hk.1)⟩, ⟨by exact zr0 HO_357002⟩, ⟨by exact zk0 BK339⟩, ⟨by exact zk0 BK340⟩, ⟨by exact zk0 BK341⟩, ⟨by exact zk0 BK342⟩, ⟨by exact zk0 BK343⟩, ⟨by exact zk0 BK344⟩, ⟨by exact zk0 BK351⟩, ⟨by exact zk0 BK356⟩, ⟨by exact zk0 BK359⟩, ⟨by exact zk0 BK368⟩, ⟨by exact zb0 HB⟩⟩)
                ·rw [if_neg c105] at H
                 exact absurd H (by simp)
               ·rw [if_neg c104] at H
                exact absurd H (by simp)
              ·rw [if_neg c103] at H
               have c103b0 : decide (x117_3 < (t365.length : Int)) = false := decide_eq_false c103
               clear c103
               replace H := Option.bind_eq_some_iff.mp H
               obtain ⟨⟨t369, t370, t371, t372, t373, t374, t375, t376, t377, t378, t379⟩, A1140, H⟩ := H
               replace H : (if x357002_2.length < 4398046511104 then (warp_Draw.l1 k3 a4 x19_1 (wrap64 (x20_2 + 1)) a0_0 a0_1 l0_2 a1_0 a1_1 a2_0 a2_1 a2_2 a2_3 a3_0 a3_1 a3_2 l3_3 a5_0 a5_1 a5_2 a5_3 a5_2 a5_3 (x357002_2 ++ [(⟨t369, t370, t371, t372⟩ : S48)])) else (none)) = some (r1, r2, r3, r4) := H
               have A114 := Aside0.mk A1140
               clear A1140
               by_cases c115 : x357002_2.length < 4398046511104
               ·rw [if_pos c115] at H
                have LMc115 := Aside0.mk c115
                clear c115
                obtain ⟨y380, hy380⟩ : ∃ y_ : List (S48), y_ = (x357002_2 ++ [(⟨t369, t370, t371, t372⟩ : S48)]) := ⟨_, rfl⟩
                replace H : (warp_Draw.l1 k3 a4 x19_1 (wrap64 (x20_2 + 1)) a0_0 a0_1 l0_2 a1_0 a1_1 a2_0 a2_1 a2_2 a2_3 a3_0 a3_1 a3_2 l3_3 a5_0 a5_1 a5_2 a5_3 a5_2 a5_3 y380) = some (r1, r2, r3, r4) := by first | (rw [hy380]; with_reducible exact H) | (have H2_ := (Option.bind_some _ _).symm.trans H; rw [hy380]; with_reducible exact H2_) | (have H2_ := (Option.bind_some _ _).symm.trans H; with_reducible exact H2_) | with_reducible exact H | (rw [hy380]; exact H) | exact H
                have Ny380 := Aside0.mk hy380
                clear hy380
                as_aux_lemma =>
                 have H' := Aside0.mk H
                 clear H
                 try go_wp2
                 replace HO_23 := zrd HO_23
                 replace HO_115 := zrd HO_115
                 replace HO_357002 := zrd HO_357002
                 replace BK339 := zkd BK339
                 replace BK340 := zkd BK340
                 replace BK341 := zkd BK341
                 replace BK342 := zkd BK342
                 replace BK343 := zkd BK343
                 replace BK344 := zkd BK344
                 replace BK351 := zkd BK351
                 replace BK356 := zkd BK356
                 replace BK359 := zkd BK359
                 replace BK368 := zkd BK368
                 replace HB := zbd HB
                 refine start_ (n := 7) (S := fun w' => w'.cell? ⟨gb356, 0, none⟩ = some (.int .i64 a5_2) ∧ w'.cell? ⟨gb356, 1, none⟩ = some (.int .i64 a5_3) ∧ w'.cell? ⟨gb356, 2, none⟩ = some (u357002)) (ds := [6]) (bs 7 0) (by kernel_rfl) rfl rfl ⟨(blk_cell BK356.out 0).trans rfl, (blk_cell BK356.out 1).trans rfl, (blk_cell BK356.out 2).trans rfl⟩ (fun hHeld => ?_)
                 generalize wr.drew = w116 at HO_23 HO_115 HO_357002 BK339 BK340 BK341 BK342 BK343 BK344 BK351 BK356 BK359 BK368 HB hHeld ⊢
                 have HI368 := Aside0.mk (show IsS72 w _ gb368 x369000_3 x369001_3 x369002_3 x369003_3 x369004_3 x369005_3 x369006_3 from ⟨BK368.out, GE368.out⟩)
                 refine pure_ (i := 0) (N := some 143) (v := ?_) (a' := ?_) (bs 7 1) rfl rfl (by kernel_rfl) (fun _ _ _ h => h) (Or.inl ⟨by rfl, ?_⟩) ?_ ?_
                 rotate_left
                 ·intro w'
                  go_simp
                  with_reducible rfl
                 rotate_left
                 ·simp only [Act.put, sA, sB, sC, i64_w, i32_w]
                  rfl
                 refine take_ (i := 1) (N := some 144) (v := ?_) (a' := ?_) (bs 7 3) rfl rfl (by kernel_rfl) (fun _ _ _ h => h) (Or.inl ⟨by rfl, ?_⟩) hHeld ?_ ?_
                 rotate_left
                 ·rintro w' ⟨s0, s1, s2⟩
                  go_simp
                  with_reducible rfl
                 rotate_left
                 ·simp only [Act.put, sA, sB, sC, i64_w, i32_w]
                  rfl
                 refine one_ (i := 2) (N := some 145) (bs 7 7) rfl rfl (by kernel_rfl) (by decide) (fun K hK => ?_)
                 refine goes_ Try.func52 (by kernel_rfl) rfl #[.pointer (some ⟨gb368, 0, none⟩), .int .i64 4294967296] (by rfl) rfl rfl (by (try simp only [List.map_toArray, List.map_cons, List.map_nil]); first | done | rfl | (simp only [List.length_drop, List.length_take]; rfl)) ?_
                 with_reducible refine (warp_sums_pixel.calls k3 gb368 x369000_3 x369001_3 x369002_3 x369003_3 x369004_3 x369005_3 x369006_3 4294967296 t369 t370 t371 t372 t373 t374 t375 t376 t377 t378 t379 w _ ?side1 ?side2 A114.out).mono ?_
                 (case side1 => repeat (first | (with_reducible first | exact HI368.out | apply IsS72.alloc | apply IsS72.drewN | apply IsS72.drew | apply IsS72.set_0 | apply IsS72.set_1 | apply IsS72.set_2 | apply IsS72.set_3 | apply IsS72.set_4 | apply IsS72.set_5 | apply IsS72.set_6 | refine IsS72.far ?_ NB368_339.out _ | refine IsS72.far ?_ NB368_340.out _ | refine IsS72.far ?_ NB368_341.out _ | refine IsS72.far ?_ NB368_342.out _ | refine IsS72.far ?_ NB368_343.out _ | refine IsS72.far ?_ NB368_344.out _ | refine IsS72.far ?_ NB368_351.out _ | refine IsS72.far ?_ NB368_356.out _ | refine IsS72.far ?_ NB368_359.out _) | exact HI368.out))
                 (case side2 => exact zb0 HB)
                 rintro e w117 ⟨rfl, hi, hb, hk⟩
                 refine ⟨_, rfl, ?_⟩
                 have n0_ := Aside0.mk (Kd.R_mono (Kd.R_keep (IsS72.apart (show IsS72 w _ gb368 x369000_3 x369001_3 x369002_3 x369003_3 x369004_3 x369005_3 x369006_3 from by repeat (first | (with_reducible first | exact HI368.out | apply IsS72.alloc | apply IsS72.drewN | apply IsS72.drew | apply IsS72.set_0 | apply IsS72.set_1 | apply IsS72.set_2 | apply IsS72.set_3 | apply IsS72.set_4 | apply IsS72.set_5 | apply IsS72.set_6 | refine IsS72.far ?_ NB368_339.out _ | refine IsS72.far ?_ NB368_340.out _ | refine IsS72.far ?_ NB368_341.out _ | refine IsS72.far ?_ NB368_342.out _ | refine IsS72.far ?_ NB368_343.out _ | refine IsS72.far ?_ NB368_344.out _ | refine IsS72.far ?_ NB368_351.out _ | refine IsS72.far ?_ NB368_356.out _ | refine IsS72.far ?_ NB368_359.out _) | exact HI368.out)) (by exact zr0 HO_23) (by decide)) hk (fun _ h => h.2)) (fun _ h => h.1))
                 have n1_ := Aside0.mk (Kd.R_mono (Kd.R_keep (IsS72.apart (show IsS72 w _ gb368 x369000_3 x369001_3 x369002_3 x369003_3 x369004_3 x369005_3 x369006_3 from by repeat (first | (with_reducible first | exact HI368.out | apply IsS72.alloc | apply IsS72.drewN | apply IsS72.drew | apply IsS72.set_0 | apply IsS72.set_1 | apply IsS72.set_2 | apply IsS72.set_3 | apply IsS72.set_4 | apply IsS72.set_5 | apply IsS72.set_6 | refine IsS72.far ?_ NB368_339.out _ | refine IsS72.far ?_ NB368_340.out _ | refine IsS72.far ?_ NB368_341.out _ | refine IsS72.far ?_ NB368_342.out _ | refine IsS72.far ?_ NB368_343.out _ | refine IsS72.far ?_ NB368_344.out _ | refine IsS72.far ?_ NB368_351.out _ | refine IsS72.far ?_ NB368_356.out _ | refine IsS72.far ?_ NB368_359.out _) | exact HI368.out)) (by exact zr0 HO_115) (by decide)) hk (fun _ h => h.2)) (fun _ h => h.1))
                 have n2_ := Aside0.mk (Kd.R_mono (Kd.R_keep (IsS72.apart (show IsS72 w _ gb368 x369000_3 x369001_3 x369002_3 x369003_3 x369004_3 x369005_3 x369006_3 from by repeat (first | (with_reducible first | exact HI368.out | apply IsS72.alloc | apply IsS72.drewN | apply IsS72.drew | apply IsS72.set_0 | apply IsS72.set_1 | apply IsS72.set_2 | apply IsS72.set_3 | apply IsS72.set_4 | apply IsS72.set_5 | apply IsS72.set_6 | refine IsS72.far ?_ NB368_339.out _ | refine IsS72.far ?_ NB368_340.out _ | refine IsS72.far ?_ NB368_341.out _ | refine IsS72.far ?_ NB368_342.out _ | refine IsS72.far ?_ NB368_343.out _ | refine IsS72.far ?_ NB368_344.out _ | refine IsS72.far ?_ NB368_351.out _ | refine IsS72.far ?_ NB368_356.out _ | refine IsS72.far ?_ NB368_359.out _) | exact HI368.out)) (by exact zr0 HO_357002) (by decide)) hk (fun _ h => h.2)) (fun _ h => h.1))
                 have n3_ := Aside0.mk (KeepBut.blk hk (zk0 BK339) (Ne.symm (IsS72.ne_blk (show IsS72 w _ gb368 x369000_3 x369001_3 x369002_3 x369003_3 x369004_3 x369005_3 x369006_3 from by repeat (first | (with_reducible first | exact HI368.out | apply IsS72.alloc | apply IsS72.drewN | apply IsS72.drew | apply IsS72.set_0 | apply IsS72.set_1 | apply IsS72.set_2 | apply IsS72.set_3 | apply IsS72.set_4 | apply IsS72.set_5 | apply IsS72.set_6 | refine IsS72.far ?_ NB368_339.out _ | refine IsS72.far ?_ NB368_340.out _ | refine IsS72.far ?_ NB368_341.out _ | refine IsS72.far ?_ NB368_342.out _ | refine IsS72.far ?_ NB368_343.out _ | refine IsS72.far ?_ NB368_344.out _ | refine IsS72.far ?_ NB368_351.out _ | refine IsS72.far ?_ NB368_356.out _ | refine IsS72.far ?_ NB368_359.out _) | exact HI368.out)) (zk0 BK339) (by decide))) (by simp))
                 have n4_ := Aside0.mk (KeepBut.blk hk (zk0 BK340) (Ne.symm (IsS72.ne_blk (show IsS72 w _ gb368 x369000_3 x369001_3 x369002_3 x369003_3 x369004_3 x369005_3 x369006_3 from by repeat (first | (with_reducible first | exact HI368.out | apply IsS72.alloc | apply IsS72.drewN | apply IsS72.drew | apply IsS72.set_0 | apply IsS72.set_1 | apply IsS72.set_2 | apply IsS72.set_3 | apply IsS72.set_4 | apply IsS72.set_5 | apply IsS72.set_6 | refine IsS72.far ?_ NB368_339.out _ | refine IsS72.far ?_ NB368_340.out _ | refine IsS72.far ?_ NB368_341.out _ | refine IsS72.far ?_ NB368_342.out _ | refine IsS72.far ?_ NB368_343.out _ | refine IsS72.far ?_ NB368_344.out _ | refine IsS72.far ?_ NB368_351.out _ | refine IsS72.far ?_ NB368_356.out _ | refine IsS72.far ?_ NB368_359.out _) | exact HI368.out)) (zk0 BK340) (by decide))) (by simp))
                 have n5_ := Aside0.mk (KeepBut.blk hk (zk0 BK341) (Ne.symm (IsS72.ne_blk (show IsS72 w _ gb368 x369000_3 x369001_3 x369002_3 x369003_3 x369004_3 x369005_3 x369006_3 from by repeat (first | (with_reducible first | exact HI368.out | apply IsS72.alloc | apply IsS72.drewN | apply IsS72.drew | apply IsS72.set_0 | apply IsS72.set_1 | apply IsS72.set_2 | apply IsS72.set_3 | apply IsS72.set_4 | apply IsS72.set_5 | apply IsS72.set_6 | refine IsS72.far ?_ NB368_339.out _ | refine IsS72.far ?_ NB368_340.out _ | refine IsS72.far ?_ NB368_341.out _ | refine IsS72.far ?_ NB368_342.out _ | refine IsS72.far ?_ NB368_343.out _ | refine IsS72.far ?_ NB368_344.out _ | refine IsS72.far ?_ NB368_351.out _ | refine IsS72.far ?_ NB368_356.out _ | refine IsS72.far ?_ NB368_359.out _) | exact HI368.out)) (zk0 BK341) (by decide))) (by simp))
                 have n6_ := Aside0.mk (KeepBut.blk hk (zk0 BK342) (Ne.symm (IsS72.ne_blk (show IsS72 w _ gb368 x369000_3 x369001_3 x369002_3 x369003_3 x369004_3 x369005_3 x369006_3 from by repeat (first | (with_reducible first | exact HI368.out | apply IsS72.alloc | apply IsS72.drewN | apply IsS72.drew | apply IsS72.set_0 | apply IsS72.set_1 | apply IsS72.set_2 | apply IsS72.set_3 | apply IsS72.set_4 | apply IsS72.set_5 | apply IsS72.set_6 | refine IsS72.far ?_ NB368_339.out _ | refine IsS72.far ?_ NB368_340.out _ | refine IsS72.far ?_ NB368_341.out _ | refine IsS72.far ?_ NB368_342.out _ | refine IsS72.far ?_ NB368_343.out _ | refine IsS72.far ?_ NB368_344.out _ | refine IsS72.far ?_ NB368_351.out _ | refine IsS72.far ?_ NB368_356.out _ | refine IsS72.far ?_ NB368_359.out _) | exact HI368.out)) (zk0 BK342) (by decide))) (by simp))
                 have n7_ := Aside0.mk (KeepBut.blk hk (zk0 BK343) (Ne.symm (IsS72.ne_blk (show IsS72 w _ gb368 x369000_3 x369001_3 x369002_3 x369003_3 x369004_3 x369005_3 x369006_3 from by repeat (first | (with_reducible first | exact HI368.out | apply IsS72.alloc | apply IsS72.drewN | apply IsS72.drew | apply IsS72.set_0 | apply IsS72.set_1 | apply IsS72.set_2 | apply IsS72.set_3 | apply IsS72.set_4 | apply IsS72.set_5 | apply IsS72.set_6 | refine IsS72.far ?_ NB368_339.out _ | refine IsS72.far ?_ NB368_340.out _ | refine IsS72.far ?_ NB368_341.out _ | refine IsS72.far ?_ NB368_342.out _ | refine IsS72.far ?_ NB368_343.out _ | refine IsS72.far ?_ NB368_344.out _ | refine IsS72.far ?_ NB368_351.out _ | refine IsS72.far ?_ NB368_356.out _ | refine IsS72.far ?_ NB368_359.out _) | exact HI368.out)) (zk0 BK343) (by decide))) (by simp))
                 have n8_ := Aside0.mk (KeepBut.blk hk (zk0 BK344) (Ne.symm (IsS72.ne_blk (show IsS72 w _ gb368 x369000_3 x369001_3 x369002_3 x369003_3 x369004_3 x369005_3 x369006_3 from by repeat (first | (with_reducible first | exact HI368.out | apply IsS72.alloc | apply IsS72.drewN | apply IsS72.drew | apply IsS72.set_0 | apply IsS72.set_1 | apply IsS72.set_2 | apply IsS72.set_3 | apply IsS72.set_4 | apply IsS72.set_5 | apply IsS72.set_6 | refine IsS72.far ?_ NB368_339.out _ | refine IsS72.far ?_ NB368_340.out _ | refine IsS72.far ?_ NB368_341.out _ | refine IsS72.far ?_ NB368_342.out _ | refine IsS72.far ?_ NB368_343.out _ | refine IsS72.far ?_ NB368_344.out _ | refine IsS72.far ?_ NB368_351.out _ | refine IsS72.far ?_ NB368_356.out _ | refine IsS72.far ?_ NB368_359.out _) | exact HI368.out)) (zk0 BK344) (by decide))) (by simp))
                 have n9_ := Aside0.mk (KeepBut.blk hk (zk0 BK351) (Ne.symm (IsS72.ne_blk (show IsS72 w _ gb368 x369000_3 x369001_3 x369002_3 x369003_3 x369004_3 x369005_3 x369006_3 from by repeat (first | (with_reducible first | exact HI368.out | apply IsS72.alloc | apply IsS72.drewN | apply IsS72.drew | apply IsS72.set_0 | apply IsS72.set_1 | apply IsS72.set_2 | apply IsS72.set_3 | apply IsS72.set_4 | apply IsS72.set_5 | apply IsS72.set_6 | refine IsS72.far ?_ NB368_339.out _ | refine IsS72.far ?_ NB368_340.out _ | refine IsS72.far ?_ NB368_341.out _ | refine IsS72.far ?_ NB368_342.out _ | refine IsS72.far ?_ NB368_343.out _ | refine IsS72.far ?_ NB368_344.out _ | refine IsS72.far ?_ NB368_351.out _ | refine IsS72.far ?_ NB368_356.out _ | refine IsS72.far ?_ NB368_359.out _) | exact HI368.out)) (zk0 BK351) (by decide))) (by simp))
                 have n10_ := Aside0.mk (KeepBut.blk hk (zk0 BK356) (Ne.symm (IsS72.ne_blk (show IsS72 w _ gb368 x369000_3 x369001_3 x369002_3 x369003_3 x369004_3 x369005_3 x369006_3 from by repeat (first | (with_reducible first | exact HI368.out | apply IsS72.alloc | apply IsS72.drewN | apply IsS72.drew | apply IsS72.set_0 | apply IsS72.set_1 | apply IsS72.set_2 | apply IsS72.set_3 | apply IsS72.set_4 | apply IsS72.set_5 | apply IsS72.set_6 | refine IsS72.far ?_ NB368_339.out _ | refine IsS72.far ?_ NB368_340.out _ | refine IsS72.far ?_ NB368_341.out _ | refine IsS72.far ?_ NB368_342.out _ | refine IsS72.far ?_ NB368_343.out _ | refine IsS72.far ?_ NB368_344.out _ | refine IsS72.far ?_ NB368_351.out _ | refine IsS72.far ?_ NB368_356.out _ | refine IsS72.far ?_ NB368_359.out _) | exact HI368.out)) (zk0 BK356) (by decide))) (by simp))
                 have n11_ := Aside0.mk (KeepBut.blk hk (zk0 BK359) (Ne.symm (IsS72.ne_blk (show IsS72 w _ gb368 x369000_3 x369001_3 x369002_3 x369003_3 x369004_3 x369005_3 x369006_3 from by repeat (first | (with_reducible first | exact HI368.out | apply IsS72.alloc | apply IsS72.drewN | apply IsS72.drew | apply IsS72.set_0 | apply IsS72.set_1 | apply IsS72.set_2 | apply IsS72.set_3 | apply IsS72.set_4 | apply IsS72.set_5 | apply IsS72.set_6 | refine IsS72.far ?_ NB368_339.out _ | refine IsS72.far ?_ NB368_340.out _ | refine IsS72.far ?_ NB368_341.out _ | refine IsS72.far ?_ NB368_342.out _ | refine IsS72.far ?_ NB368_343.out _ | refine IsS72.far ?_ NB368_344.out _ | refine IsS72.far ?_ NB368_351.out _ | refine IsS72.far ?_ NB368_356.out _ | refine IsS72.far ?_ NB368_359.out _) | exact HI368.out)) (zk0 BK359) (by decide))) (by simp))
                 have n12_ := Aside0.mk (hb)
                 have n13_ := Aside0.mk (hi.1)
                 clear HO_23
                 clear HO_115
                 clear HO_357002
                 clear BK339
                 clear BK340
                 clear BK341
                 clear BK342
                 clear BK343
                 clear BK344
                 clear BK351
                 clear BK356
                 clear BK359
                 clear HB
                 clear BK368
                 clear HI368
                 have HO_23 := n0_
                 have HO_115 := n1_
                 have HO_357002 := n2_
                 have BK339 := n3_
                 have BK340 := n4_
                 have BK341 := n5_
                 have BK342 := n6_
                 have BK343 := n7_
                 have BK344 := n8_
                 have BK351 := n9_
                 have BK356 := n10_
                 have BK359 := n11_
                 have HB := n12_
                 have BK368 := n13_
                 clear n0_ n1_ n2_ n3_ n4_ n5_ n6_ n7_ n8_ n9_ n10_ n11_ n12_ n13_
                 (try clear hb)
                 (try clear hb2)
                 (try clear hk)
                 (try clear hi)
                 refine hK.out _ _ ⟨(blk_cell BK356.out 0).trans rfl, (blk_cell BK356.out 1).trans rfl, (blk_cell BK356.out 2).trans rfl⟩ (fun hHeld => ?_)
                 clear hK K
                 refine norm_ (a' := ?_) ?_ ?_
                 rotate_left
                 ·show Act.put _ (some 145) _ = _
                  simp only [Act.put, sA, sB, sC, i64_w, i32_w]
                  rfl
                 refine one_ (i := 3) (N := some 146) (bs 7 15) rfl rfl (by kernel_rfl) (by decide) (fun K hK => ?_)
                 refine value_ (w1 := ?_) (v := ?_) (by rfl) rfl ?_ ?_
                 rotate_left 2
                 ·go_simp
                  constructor
                  ·rfl
                  ·rfl
                 refine hK.out _ _ ⟨(blk_cell (blk_alloc BK356.out _) 0).trans rfl, (blk_cell (blk_alloc BK356.out _) 1).trans rfl, (blk_cell (blk_alloc BK356.out _) 2).trans rfl⟩ (fun hHeld => ?_)
                 clear hK K
                 refine norm_ (a' := ?_) ?_ ?_
                 rotate_left
                 ·show Act.put _ (some 146) _ = _
                  simp only [Act.put, sA, sB, sC, i64_w, i32_w]
                  rfl
                 refine one_ (i := 4) (N := some 147) (bs 7 31) rfl rfl (by kernel_rfl) (by decide) (fun K hK => ?_)
                 refine Kd.R_append_step k48 (w0 := w) w.heap.size (by rfl) (.tmp 144) (.tmp 146) 38 48 (.agg #[(.int .i64 0), (.int .i64 0), (.int .i64 0), (.int .i64 0)]) 32 rfl Try.underlying38 info48 rfl (by decide) (by omega) u357002 x357002_2 (⟨t369, t370, t371, t372⟩ : S48) [.int .i64 t369, .int .i64 t370, .int .i64 t371, .int .i64 t372] (fun _ => True) (fun _ => False) rfl rfl ?aP (fun _ hk => hk.elim) ?aF ?aO ?aB ?aS ?aL ?_
                 (case aP => exact k48_mkM _ _ _ (⟨t369, t370, t371, t372⟩ : S48))
                 (case aB => exact (by exact zb0 HB))
                 (case aF => exact (fun _ _ => trivial))
                 (case aO => exact (by exact zr0 HO_357002))
                 (case aS => exact (below_size (by exact zb0 HB)))
                 (case aL => have := LMc115.out; omega)
                 intro v381 w118 ho hb hg hat
                 rw [← Ny380.out] at ho
                 have n0_ := Aside0.mk (Kd.R_over' (by exact zr0 HO_23) (Kd.R_typed (by exact zr0 HO_357002)) (by decide) hg)
                 have n1_ := Aside0.mk (Kd.R_over' (by exact zr0 HO_115) (Kd.R_typed (by exact zr0 HO_357002)) (by decide) hg)
                 have n2_ := Aside0.mk (blk_grown (zk0 BK339) hg (Kd.R_ne HO_357002.out BK339.out (by decide)))
                 have n3_ := Aside0.mk (blk_grown (zk0 BK340) hg (Kd.R_ne HO_357002.out BK340.out (by decide)))
                 have n4_ := Aside0.mk (blk_grown (zk0 BK341) hg (Kd.R_ne HO_357002.out BK341.out (by decide)))
                 have n5_ := Aside0.mk (blk_grown (zk0 BK342) hg (Kd.R_ne HO_357002.out BK342.out (by decide)))
                 have n6_ := Aside0.mk (blk_grown (zk0 BK343) hg (Kd.R_ne HO_357002.out BK343.out (by decide)))
                 have n7_ := Aside0.mk (blk_grown (zk0 BK344) hg (Kd.R_ne HO_357002.out BK344.out (by decide)))
                 have n8_ := Aside0.mk (blk_grown (zk0 BK351) hg (Kd.R_ne HO_357002.out BK351.out (by decide)))
                 have n9_ := Aside0.mk (blk_grown (zk0 BK356) hg (Kd.R_ne HO_357002.out BK356.out (by decide)))
                 have n10_ := Aside0.mk (blk_grown (zk0 BK359) hg (Kd.R_ne HO_357002.out BK359.out (by decide)))
                 have n11_ := Aside0.mk (blk_grown (zk0 BK368) hg (Kd.R_ne HO_357002.out BK368.out (by decide)))
                 have n12_ := Aside0.mk (hb)
                 have n13_ := Aside0.mk (ho)
                 clear HO_23
                 clear HO_115
                 clear BK339
                 clear BK340
                 clear BK341
                 clear BK342
                 clear BK343
                 clear BK344
                 clear BK351
                 clear BK356
                 clear BK359
                 clear BK368
                 clear HB
                 clear HO_357002
                 have HO_23 := n0_
                 have HO_115 := n1_
                 have BK339 := n2_
                 have BK340 := n3_
                 have BK341 := n4_
                 have BK342 := n5_
                 have BK343 := n6_
                 have BK344 := n7_
                 have BK351 := n8_
                 have BK356 := n9_
                 have BK359 := n10_
                 have BK368 := n11_
                 have HB := n12_
                 have HO382 := n13_
                 clear n0_ n1_ n2_ n3_ n4_ n5_ n6_ n7_ n8_ n9_ n10_ n11_ n12_ n13_
                 clear ho hb hg hat
                 obtain ⟨Ao119, co119, eo119⟩ := Kd.R_slice HO382.out
                 (first | subst eo119 | (injection eo119 with f1_ f2_ f3_; have f4_ := f1_.symm; have f5_ := f3_.symm; clear f1_ f2_ f3_; subst f4_; subst f5_))
                 refine hK.out _ _ ⟨(blk_cell BK356.out 0).trans rfl, (blk_cell BK356.out 1).trans rfl, (blk_cell BK356.out 2).trans rfl⟩ (fun hHeld => ?_)
                 clear hK K
                 refine norm_ (a' := ?_) ?_ ?_
                 rotate_left
                 ·show Act.put _ (some 147) _ = _
                  simp only [Act.put, sA, sB, sC, i64_w, i32_w]
                  rfl
                 refine pure_ (i := 5) (N := some 148) (v := ?_) (a' := ?_) (bs 7 63) rfl rfl (by kernel_rfl) (fun _ _ _ h => h) (Or.inl ⟨by rfl, ?_⟩) ?_ ?_
                 rotate_left
                 ·intro w'
                  go_simp
                  with_reducible rfl
                 rotate_left
                 ·simp only [Act.put, sA, sB, sC, i64_w, i32_w]
                  rfl
                 refine last_ (i := 6) (N := none) (bs 7 127) rfl rfl (by kernel_rfl) (by decide) (fun K hK => ?_)
                 have hs120 : w118.cell? ⟨gb356, 2, none⟩ = some (u357002) := (blk_cell BK356.out 2).trans rfl
                 have hfs120 := blk_frozen BK356.out 2
                 have hns120_0 := NB339_356.out
                 have hns120_1 := NB340_356.out
                 have hns120_2 := NB341_356.out
                 have hns120_3 := NB342_356.out
                 have hns120_4 := NB343_356.out
                 have hns120_5 := NB344_356.out
                 have hns120_6 := NB351_356.out
                 have hns120_8 := NB359_356.out
                 have hns120_9 := NB368_356.out
                 have hms120_0 := NB356_339.out
                 have hms120_1 := NB356_340.out
                 have hms120_2 := NB356_341.out
                 have hms120_3 := NB356_342.out
                 have hms120_4 := NB356_343.out
                 have hms120_5 := NB356_344.out
                 have hms120_6 := NB356_351.out
                 have hms120_8 := NB356_359.out
                 have hms120_9 := NB356_368.out
                 refine skip_ (w1 := ?_) (by rfl) rfl ?_ ?_
                 rotate_left
                 ·go_simp
                  rfl
                 refine hK.out _ _ ?_
                 clear hK K
                 refine done_ (by kernel_rfl) ?_
                 try go_wp2
                 first | go_roundg k3 | ((try subst hji13); go_roundg k3)
                 case measure => have := HK1.out; have := HK2.out; have := HK3.out; omega
                 case rel => first | (exact ⟨(wrap64 (x20_2 + 1)), (y380), (.slice Ao119 y380.length co119), (by first | rfl | (simp; done) | (simp [*]; done)), H', ⟨by have := HK1.out; have := HK2.out; have := HK3.out; omega⟩, ⟨by exact zro HO382 BK356 (by decide)⟩, ⟨by exact zf BK339 NB339_356⟩, ⟨by exact zf BK340 NB340_356⟩, ⟨by exact zf BK341 NB341_356⟩, ⟨by exact zf BK342 NB342_356⟩, ⟨by exact zf BK343 NB343_356⟩, ⟨by exact zf BK344 NB344_356⟩, ⟨by exact zf BK351 NB351_356⟩, ⟨by exact zp BK356 rfl⟩, ⟨by exact zbo HB GE356⟩⟩) | (exact ⟨(wrap64 (x20_2 + 1)), (y380), (.slice Ao119 y380.length co119), (by first | rfl | (simp; done) | (simp [*]; done)), H', ⟨by have := HK1.out; have := HK2.out; have := HK3.out; omega⟩, ⟨by exact zro HO382 BK356 (by decide)⟩, ⟨by exact zf BK339 NB339_356⟩, ⟨by exact zf BK340 NB340_356⟩, ⟨by exact zf BK341 NB341_356⟩, ⟨by exact zf BK342 NB342_356⟩, ⟨by exact zf BK343 NB343_356⟩, ⟨by exact zf BK344 NB344_356⟩, ⟨by exact zf BK351 NB351_356⟩, ⟨by exact zp BK356 rfl⟩, ⟨by exact zbo HB GE356⟩⟩)
               ·rw [if_neg c115] at H
                exact absurd H (by simp)
           ·rw [if_neg c68] at H
            have c68b0 : decide (x20_2 < (wrap64 (a5_0 + a5_2))) = false := decide_eq_false c68
            clear c68
            as_aux_lemma =>
             have H' := Aside0.mk H
             clear H
             obtain ⟨hcz121_0, hcz121_1, hcz121_2, hcz121_3, hfz121_0, hfz121_1, hfz121_2, hfz121_3⟩ := zq4 BK343
             go_wp2
             first | go_roundg k2 | ((try subst hji13); go_roundg k2)
             case measure => have := HK1.out; have := HK2.out; omega
             case rel => first | (exact ⟨(wrap64 (x19_1 + 1)), (x357002_2), (u357002), (by first | rfl | (simp; done) | (simp [*]; done)), H', ⟨by have := HK1.out; have := HK2.out; omega⟩, ⟨by exact zr0 HO_357002⟩, ⟨by exact zk0 BK339⟩, ⟨by exact zk0 BK340⟩, ⟨by exact zk0 BK341⟩, ⟨by exact zk0 BK342⟩, ⟨by exact zk0 BK343⟩, ⟨by exact zk0 BK344⟩, ⟨by exact zk0 BK351⟩, ⟨by exact zk0 BK356⟩, ⟨by exact zb0 HB⟩⟩) | (exact ⟨(wrap64 (x19_1 + 1)), (x357002_2), (u357002), (by first | rfl | (simp; done) | (simp [*]; done)), H', ⟨by have := HK1.out; have := HK2.out; omega⟩, ⟨by exact zr0 HO_357002⟩, ⟨by exact zk0 BK339⟩, ⟨by exact zk0 BK340⟩, ⟨by exact zk0 BK341⟩, ⟨by exact zk0 BK342⟩, ⟨by exact zk0 BK343⟩, ⟨by exact zk0 BK344⟩, ⟨by exact zk0 BK351⟩, ⟨by exact zk0 BK356⟩, ⟨by exact zb0 HB⟩⟩)
        ·rw [if_neg c66] at H
         have c66b0 : decide (x19_1 < (wrap64 (a5_1 + a5_3))) = false := decide_eq_false c66
         clear c66
         as_aux_lemma =>
          simp only [Option.some.injEq, Prod.mk.injEq] at H
          obtain ⟨rfl, rfl, rfl, rfl⟩ := H
          have hnb122 := NB343_339.out
          have hnc122 := NB339_343.out
          have hnb123 := NB343_340.out
          have hnc123 := NB340_343.out
          have hnb124 := NB343_341.out
          have hnc124 := NB341_343.out
          have hnb125 := NB343_342.out
          have hnc125 := NB342_343.out
          have hnb126 := NB343_344.out
          have hnc126 := NB344_343.out
          have hnb127 := NB343_351.out
          have hnc127 := NB351_343.out
          have hnb128 := NB343_356.out
          have hnc128 := NB356_343.out
          obtain ⟨hcz129_0, hcz129_1, hcz129_2, hcz129_3, hfz129_0, hfz129_1, hfz129_2, hfz129_3⟩ := zq4 BK343
          have hnb130 := NB356_339.out
          have hnc130 := NB339_356.out
          have hnb131 := NB356_340.out
          have hnc131 := NB340_356.out
          have hnb132 := NB356_341.out
          have hnc132 := NB341_356.out
          have hnb133 := NB356_342.out
          have hnc133 := NB342_356.out
          have hnb134 := NB356_344.out
          have hnc134 := NB344_356.out
          have hnb135 := NB356_351.out
          have hnc135 := NB351_356.out
          obtain ⟨hcz136_0, hcz136_1, hcz136_2, hfz136_0, hfz136_1, hfz136_2⟩ := zq3 BK356
          have hnb137 := NB344_339.out
          have hnc137 := NB339_344.out
          have hnb138 := NB344_340.out
          have hnc138 := NB340_344.out
          have hnb139 := NB344_341.out
          have hnc139 := NB341_344.out
          have hnb140 := NB344_342.out
          have hnc140 := NB342_344.out
          have hnb141 := NB344_351.out
          have hnc141 := NB351_344.out
          obtain ⟨hcz142_0, hcz142_1, hcz142_2, hfz142_0, hfz142_1, hfz142_2⟩ := zq3 BK344
          obtain ⟨Ao143, co143, eo143⟩ := Kd.R_slice HO_357002.out
          subst eo143
          go_wp2
          refine bodyPost_ret (results_ct rfl _ _ gb344 40 #[.int .i64 a5_2, .int .i64 a5_3, .slice Ao143 x357002_1.length co143] (0, 0) _ rfl (by exact zp BK344 rfl) Try.underlying40 rfl (by kernel_rfl)) rfl ?_
          exact ⟨_, by first | rfl | (simp [errW_none, errW_some] <;> rfl) | (simp only [← hji13]; first | rfl | (simp [errW_none, errW_some] <;> rfl)) | (simp [*, errW_none, errW_some] <;> rfl), by exact zro HO_357002 BK344 (by decide), by exact zbo HB GE344⟩
     ·rw [if_neg c15] at H
      exact absurd H (by simp)
    ·rw [if_neg c14] at H
     exact absurd H (by simp)
   ·replace c12 := Bool.eq_false_iff.mpr c12
    subst c12
    have H1 : (some (0, 0, ([] : List (S48)), 15)) = some (r1, r2, r3, r4) := by rw [if_neg (show ¬ (false = true) by decide)] at H; exact H
    clear H
    have H := H1
    clear H1
    as_aux_lemma =>
     simp only [Option.some.injEq, Prod.mk.injEq] at H
     obtain ⟨rfl, rfl, rfl, rfl⟩ := H
     go_enter Try.func19, Try.ntmps19
     go_wp2_with (first | ((with_reducible refine gate_dst (N := 6) rfl ?_); refine box_event ?hg (N := 6) ?hd (cs := #[.int .i64 a0_0, .int .i64 a0_1, .slice A0_2 l0_2.length c0_2]) (t := 40) ?hr ?_; (case hd => rfl); (case hg => rfl); (case hr => first | (go_simp; done) | (go_simp; rfl)); intro gb339 hg w144 hbox hb; have GW339 := zg HB hg; have GE339 := zg HB hg; have n0_ := Aside0.mk (hbox); replace HB := zb HB hb; have BK339 := n0_; clear n0_; clear hb hbox hg) | ((with_reducible refine gate_dst (N := 7) rfl ?_); refine box_event ?hg (N := 7) ?hd (cs := #[.int .i64 a1_0, .int .i64 a1_1]) (t := 28) ?hr ?_; (case hd => rfl); (case hg => rfl); (case hr => first | (go_simp; done) | (go_simp; rfl)); intro gb340 hg w145 hbox hb; have GW340 := zg HB hg; have GE340 := zg HB hg; have NB339_340 := zn BK339 hg; have NB340_339 := zn' BK339 hg; have n0_ := Aside0.mk (hbox); replace BK339 := zk BK339 hb; replace HB := zb HB hb; have BK340 := n0_; clear n0_; clear hb hbox hg) | ((with_reducible refine gate_dst (N := 8) rfl ?_); refine box_event ?hg (N := 8) ?hd (cs := #[.int .i64 a2_0, .int .i64 a2_1, .int .i64 a2_2, .int .i64 a2_3]) (t := 34) ?hr ?_; (case hd => rfl); (case hg => rfl); (case hr => first | (go_simp; done) | (go_simp; rfl)); intro gb341 hg w146 hbox hb; have GW341 := zg HB hg; have GE341 := zg HB hg; have NB339_341 := zn BK339 hg; have NB341_339 := zn' BK339 hg; have NB340_341 := zn BK340 hg; have NB341_340 := zn' BK340 hg; have n0_ := Aside0.mk (hbox); replace BK339 := zk BK339 hb; replace BK340 := zk BK340 hb; replace HB := zb HB hb; have BK341 := n0_; clear n0_; clear hb hbox hg) | ((with_reducible refine gate_dst (N := 9) rfl ?_); refine box_event ?hg (N := 9) ?hd (cs := #[.int .i64 a3_0, .int .i64 a3_1, .int .i64 a3_2, .slice A3_3 l3_3.length c3_3]) (t := 24) ?hr ?_; (case hd => rfl); (case hg => rfl); (case hr => first | (go_simp; done) | (go_simp; rfl)); intro gb342 hg w147 hbox hb; have GW342 := zg HB hg; have GE342 := zg HB hg; have NB339_342 := zn BK339 hg; have NB342_339 := zn' BK339 hg; have NB340_342 := zn BK340 hg; have NB342_340 := zn' BK340 hg; have NB341_342 := zn BK341 hg; have NB342_341 := zn' BK341 hg; have n0_ := Aside0.mk (hbox); replace BK339 := zk BK339 hb; replace BK340 := zk BK340 hb; replace BK341 := zk BK341 hb; replace HB := zb HB hb; have BK342 := n0_; clear n0_; clear hb hbox hg) | ((with_reducible refine gate_dst (N := 11) rfl ?_); refine box_event ?hg (N := 11) ?hd (cs := #[.int .i64 a5_0, .int .i64 a5_1, .int .i64 a5_2, .int .i64 a5_3]) (t := 34) ?hr ?_; (case hd => rfl); (case hg => rfl); (case hr => first | (go_simp; done) | (go_simp; rfl)); intro gb343 hg w148 hbox hb; have GW343 := zg HB hg; have GE343 := zg HB hg; have NB339_343 := zn BK339 hg; have NB343_339 := zn' BK339 hg; have NB340_343 := zn BK340 hg; have NB343_340 := zn' BK340 hg; have NB341_343 := zn BK341 hg; have NB343_341 := zn' BK341 hg; have NB342_343 := zn BK342 hg; have NB343_342 := zn' BK342 hg; have n0_ := Aside0.mk (hbox); replace BK339 := zk BK339 hb; replace BK340 := zk BK340 hb; replace BK341 := zk BK341 hb; replace BK342 := zk BK342 hb; replace HB := zb HB hb; have BK343 := n0_; clear n0_; clear hb hbox hg) | ((with_reducible refine gate_dst (N := 12) rfl ?_); refine box_event ?hg (N := 12) ?hd (cs := #[.int .i64 0, .int .i64 0, .slice none 0 0]) (t := 40) ?hr ?_; (case hd => rfl); (case hg => rfl); (case hr => first | (go_simp; done) | (go_simp; rfl)); intro gb344 hg w149 hbox hb; have GW344 := zg HB hg; have GE344 := zg HB hg; have NB339_344 := zn BK339 hg; have NB344_339 := zn' BK339 hg; have NB340_344 := zn BK340 hg; have NB344_340 := zn' BK340 hg; have NB341_344 := zn BK341 hg; have NB344_341 := zn' BK341 hg; have NB342_344 := zn BK342 hg; have NB344_342 := zn' BK342 hg; have NB343_344 := zn BK343 hg; have NB344_343 := zn' BK343 hg; have n0_ := Aside0.mk (hbox); replace BK339 := zk BK339 hb; replace BK340 := zk BK340 hb; replace BK341 := zk BK341 hb; replace BK342 := zk BK342 hb; replace BK343 := zk BK343 hb; replace HB := zb HB hb; have BK344 := n0_; clear n0_; clear hb hbox hg; have hnb150 := NB339_340.out; have hnc150 := NB340_339.out; have hnb151 := NB339_341.out; have hnc151 := NB341_339.out; have hnb152 := NB339_342.out; have hnc152 := NB342_339.out; have hnb153 := NB339_343.out; have hnc153 := NB343_339.out; have hnb154 := NB339_344.out; have hnc154 := NB344_339.out; obtain ⟨hcz155_0, hcz155_1, hcz155_2, hfz155_0, hfz155_1, hfz155_2⟩ := zq3 BK339) | ((with_reducible refine gate_callee (f := 22) rfl ?_); refine goesL_ (some 32) rfl rfl Try.func22 (by kernel_rfl) rfl #[.agg #[.int .i64 a0_0, .int .i64 a0_1, .slice A0_2 l0_2.length c0_2]] rfl (by (try simp only [List.map_toArray, List.map_cons, List.map_nil]); first | done | rfl | (simp only [List.length_drop, List.length_take]; rfl)) ?_; (with_reducible refine (raster_Check.calls k a0_0 a0_1 _ _ l0_2 t345 _ ?side1 ?side2 A7.out).mono ?_); (case side1 => repeat (first | exact (Kd.C_below HR0_2.out HB.out) | (with_reducible refine Kd.C_alloc ?_ _) | (with_reducible refine Kd.C_drewN ?_ _) | (with_reducible refine Kd.C_drew ?_))); (case side2 => exact HC0_2.out); rintro e w156 ⟨rfl, hb⟩; refine ⟨_, rfl, ?_⟩; replace BK339 := zk BK339 hb; replace BK340 := zk BK340 hb; replace BK341 := zk BK341 hb; replace BK342 := zk BK342 hb; replace BK343 := zk BK343 hb; replace BK344 := zk BK344 hb; replace HB := zb HB hb; (try clear hb); (try clear hb2); (try clear hk); (try clear hi); have hnb157 := NB342_340.out; have hnc157 := NB340_342.out; have hnb158 := NB342_341.out; have hnc158 := NB341_342.out; have hnb159 := NB342_343.out; have hnc159 := NB343_342.out; have hnb160 := NB342_344.out; have hnc160 := NB344_342.out; obtain ⟨hcz161_0, hcz161_1, hcz161_2, hcz161_3, hfz161_0, hfz161_1, hfz161_2, hfz161_3⟩ := zq4 BK342; have hnb162 := NB343_340.out; have hnc162 := NB340_343.out; have hnb163 := NB343_341.out; have hnc163 := NB341_343.out; have hnb164 := NB343_344.out; have hnc164 := NB344_343.out; obtain ⟨hcz165_0, hcz165_1, hcz165_2, hcz165_3, hfz165_0, hfz165_1, hfz165_2, hfz165_3⟩ := zq4 BK343; have hnb166 := NB341_340.out; have hnc166 := NB340_341.out; have hnb167 := NB341_344.out; have hnc167 := NB344_341.out; obtain ⟨hcz168_0, hcz168_1, hcz168_2, hcz168_3, hfz168_0, hfz168_1, hfz168_2, hfz168_3⟩ := zq4 BK341) | ((with_reducible refine gate_callee (f := 17) rfl ?_); refine goesL_ (some 42) rfl rfl Try.func17 (by kernel_rfl) rfl #[.agg #[.int .i64 a3_0, .int .i64 a3_1, .int .i64 a3_2, .slice A3_3 l3_3.length c3_3], .int .i64 a4, .agg #[.int .i64 a5_0, .int .i64 a5_1, .int .i64 a5_2, .int .i64 a5_3], .agg #[.int .i64 a2_0, .int .i64 a2_1, .int .i64 a2_2, .int .i64 a2_3]] rfl (by (try simp only [List.map_toArray, List.map_cons, List.map_nil]); first | done | rfl | (simp only [List.length_drop, List.length_take]; rfl)) ?_; (with_reducible refine (warp_Needs.calls k a3_0 a3_1 a3_2 _ _ l3_3 a4 a5_0 a5_1 a5_2 a5_3 a2_0 a2_1 a2_2 a2_3 t346 t347 t348 t349 t350 _ ?side1 ?side2 A9.out).mono ?_); (case side1 => repeat (first | exact (Kd.C_below HR3_3.out HB.out) | (with_reducible refine Kd.C_alloc ?_ _) | (with_reducible refine Kd.C_drewN ?_ _) | (with_reducible refine Kd.C_drew ?_))); (case side2 => exact HC3_3.out); rintro e w169 ⟨rfl, hb⟩; refine ⟨_, rfl, ?_⟩; replace BK339 := zk BK339 hb; replace BK340 := zk BK340 hb; replace BK341 := zk BK341 hb; replace BK342 := zk BK342 hb; replace BK343 := zk BK343 hb; replace BK344 := zk BK344 hb; replace HB := zb HB hb; (try clear hb); (try clear hb2); (try clear hk); (try clear hi)) | ((with_reducible refine gate_dst (N := 15) rfl ?_); refine box_event ?hg (N := 15) ?hd (cs := #[.int .i64 0, .int .i64 0, .int .i64 0, .int .i64 0]) (t := 34) ?hr ?_; (case hd => rfl); (case hg => rfl); (case hr => first | (go_simp; done) | (go_simp; rfl)); intro gb351 hg w170 hbox hb; have GW351 := zg HB hg; have GE351 := zg HB hg; have NB339_351 := zn BK339 hg; have NB351_339 := zn' BK339 hg; have NB340_351 := zn BK340 hg; have NB351_340 := zn' BK340 hg; have NB341_351 := zn BK341 hg; have NB351_341 := zn' BK341 hg; have NB342_351 := zn BK342 hg; have NB351_342 := zn' BK342 hg; have NB343_351 := zn BK343 hg; have NB351_343 := zn' BK343 hg; have NB344_351 := zn BK344 hg; have NB351_344 := zn' BK344 hg; have n0_ := Aside0.mk (hbox); replace BK339 := zk BK339 hb; replace BK340 := zk BK340 hb; replace BK341 := zk BK341 hb; replace BK342 := zk BK342 hb; replace BK343 := zk BK343 hb; replace BK344 := zk BK344 hb; replace HB := zb HB hb; have BK351 := n0_; clear n0_; clear hb hbox hg; have hnb171 := NB351_339.out; have hnc171 := NB339_351.out; have hnb172 := NB351_340.out; have hnc172 := NB340_351.out; have hnb173 := NB351_341.out; have hnc173 := NB341_351.out; have hnb174 := NB351_342.out; have hnc174 := NB342_351.out; have hnb175 := NB351_343.out; have hnc175 := NB343_351.out; have hnb176 := NB351_344.out; have hnc176 := NB344_351.out; obtain ⟨hcz177_0, hcz177_1, hcz177_2, hcz177_3, hfz177_0, hfz177_1, hfz177_2, hfz177_3⟩ := zq4 BK351; obtain ⟨hcz178_0, hcz178_1, hcz178_2, hfz178_0, hfz178_1, hfz178_2⟩ := zq3 BK339; have hnb179 := NB340_344.out; have hnc179 := NB344_340.out; obtain ⟨hcz180_0, hcz180_1, hfz180_0, hfz180_1⟩ := zq2 BK340) | ((with_reducible refine gate_callee (f := 47) rfl ?_); refine goesL_ (some 52) rfl rfl Try.func47 (by kernel_rfl) rfl #[.agg #[.int .i64 a0_0, .int .i64 a0_1, .slice A0_2 l0_2.length c0_2], .agg #[.int .i64 a1_0, .int .i64 a1_1], .agg #[.int .i64 t346, .int .i64 t347, .int .i64 t348, .int .i64 t349]] rfl (by (try simp only [List.map_toArray, List.map_cons, List.map_nil]); first | done | rfl | (simp only [List.length_drop, List.length_take]; rfl)) ?_; (with_reducible refine (warp_covers.calls a0_0 a0_1 _ _ l0_2 a1_0 a1_1 t346 t347 t348 t349 false _ ?side1 ?side2 A11.out).mono ?_); (case side1 => exact Kd.C_below HR0_2.out (by exact zbo HB GE351)); (case side2 => exact HC0_2.out); rintro e w181 ⟨rfl, hb⟩; refine ⟨_, rfl, ?_⟩; have n0_ := Aside0.mk (blk_below (g := gb351) (o := .cells #[.int .i64 t346, .int .i64 t347, .int .i64 t348, .int .i64 t349] 34 (0, 0)) (by exact zp BK351 rfl) hb); have n1_ := Aside0.mk (below_step (by exact zbo HB GE351) hb); replace BK339 := zfk BK339 NB339_351 hb; replace BK340 := zfk BK340 NB340_351 hb; replace BK341 := zfk BK341 NB341_351 hb; replace BK342 := zfk BK342 NB342_351 hb; replace BK343 := zfk BK343 NB343_351 hb; replace BK344 := zfk BK344 NB344_351 hb; clear BK351; clear HB; have BK351 := n0_; have HB := n1_; clear n0_ n1_; (try clear hb); (try clear hb2); (try clear hk); (try clear hi); obtain ⟨hcz182_0, hcz182_1, hcz182_2, hfz182_0, hfz182_1, hfz182_2⟩ := zq3 BK344))
     refine bodyPost_ret (results_ct rfl _ _ gb344 40 #[.int .i64 0, .int .i64 0, .slice none 0 0] (0, 0) _ rfl (by exact zp BK344 rfl) Try.underlying40 rfl (by kernel_rfl)) rfl ?_
     exact ⟨_, by first | rfl | (simp [errW_none, errW_some] <;> rfl) | (simp [*, errW_none, errW_some] <;> rfl), by first | exact Kd.R_nil _ _ _ _ _ | exact Kd.N_nil _ _ _ _ _ | exact Kd.V_nil _ _ _ _ _ | exact Kd.Q_nil _ _ _ _ _ | exact Kd.S_nil _ _ _ _ _, by exact zbo HB GE344⟩
  ·rw [if_neg c10] at H
   have c10b0 : (t350 == 0) = false := beq_eq_false_iff_ne.mpr c10
   have c10b1 : (t350 != 0) = true := bne_iff_ne.mpr c10
   as_aux_lemma =>
    simp only [Option.some.injEq, Prod.mk.injEq] at H
    obtain ⟨rfl, rfl, rfl, rfl⟩ := H
    go_enter Try.func19, Try.ntmps19
    go_wp2_with (first | ((with_reducible refine gate_dst (N := 6) rfl ?_); refine box_event ?hg (N := 6) ?hd (cs := #[.int .i64 a0_0, .int .i64 a0_1, .slice A0_2 l0_2.length c0_2]) (t := 40) ?hr ?_; (case hd => rfl); (case hg => rfl); (case hr => first | (go_simp; done) | (go_simp; rfl)); intro gb339 hg w183 hbox hb; have GW339 := zg HB hg; have GE339 := zg HB hg; have n0_ := Aside0.mk (hbox); replace HB := zb HB hb; have BK339 := n0_; clear n0_; clear hb hbox hg) | ((with_reducible refine gate_dst (N := 7) rfl ?_); refine box_event ?hg (N := 7) ?hd (cs := #[.int .i64 a1_0, .int .i64 a1_1]) (t := 28) ?hr ?_; (case hd => rfl); (case hg => rfl); (case hr => first | (go_simp; done) | (go_simp; rfl)); intro gb340 hg w184 hbox hb; have GW340 := zg HB hg; have GE340 := zg HB hg; have NB339_340 := zn BK339 hg; have NB340_339 := zn' BK339 hg; have n0_ := Aside0.mk (hbox); replace BK339 := zk BK339 hb; replace HB := zb HB hb; have BK340 := n0_; clear n0_; clear hb hbox hg) | ((with_reducible refine gate_dst (N := 8) rfl ?_); refine box_event ?hg (N := 8) ?hd (cs := #[.int .i64 a2_0, .int .i64 a2_1, .int .i64 a2_2, .int .i64 a2_3]) (t := 34) ?hr ?_; (case hd => rfl); (case hg => rfl); (case hr => first | (go_simp; done) | (go_simp; rfl)); intro gb341 hg w185 hbox hb; have GW341 := zg HB hg; have GE341 := zg HB hg; have NB339_341 := zn BK339 hg; have NB341_339 := zn' BK339 hg; have NB340_341 := zn BK340 hg; have NB341_340 := zn' BK340 hg; have n0_ := Aside0.mk (hbox); replace BK339 := zk BK339 hb; replace BK340 := zk BK340 hb; replace HB := zb HB hb; have BK341 := n0_; clear n0_; clear hb hbox hg) | ((with_reducible refine gate_dst (N := 9) rfl ?_); refine box_event ?hg (N := 9) ?hd (cs := #[.int .i64 a3_0, .int .i64 a3_1, .int .i64 a3_2, .slice A3_3 l3_3.length c3_3]) (t := 24) ?hr ?_; (case hd => rfl); (case hg => rfl); (case hr => first | (go_simp; done) | (go_simp; rfl)); intro gb342 hg w186 hbox hb; have GW342 := zg HB hg; have GE342 := zg HB hg; have NB339_342 := zn BK339 hg; have NB342_339 := zn' BK339 hg; have NB340_342 := zn BK340 hg; have NB342_340 := zn' BK340 hg; have NB341_342 := zn BK341 hg; have NB342_341 := zn' BK341 hg; have n0_ := Aside0.mk (hbox); replace BK339 := zk BK339 hb; replace BK340 := zk BK340 hb; replace BK341 := zk BK341 hb; replace HB := zb HB hb; have BK342 := n0_; clear n0_; clear hb hbox hg) | ((with_reducible refine gate_dst (N := 11) rfl ?_); refine box_event ?hg (N := 11) ?hd (cs := #[.int .i64 a5_0, .int .i64 a5_1, .int .i64 a5_2, .int .i64 a5_3]) (t := 34) ?hr ?_; (case hd => rfl); (case hg => rfl); (case hr => first | (go_simp; done) | (go_simp; rfl)); intro gb343 hg w187 hbox hb; have GW343 := zg HB hg; have GE343 := zg HB hg; have NB339_343 := zn BK339 hg; have NB343_339 := zn' BK339 hg; have NB340_343 := zn BK340 hg; have NB343_340 := zn' BK340 hg; have NB341_343 := zn BK341 hg; have NB343_341 := zn' BK341 hg; have NB342_343 := zn BK342 hg; have NB343_342 := zn' BK342 hg; have n0_ := Aside0.mk (hbox); replace BK339 := zk BK339 hb; replace BK340 := zk BK340 hb; replace BK341 := zk BK341 hb; replace BK342 := zk BK342 hb; replace HB := zb HB hb; have BK343 := n0_; clear n0_; clear hb hbox hg) | ((with_reducible refine gate_dst (N := 12) rfl ?_); refine box_event ?hg (N := 12) ?hd (cs := #[.int .i64 0, .int .i64 0, .slice none 0 0]) (t := 40) ?hr ?_; (case hd => rfl); (case hg => rfl); (case hr => first | (go_simp; done) | (go_simp; rfl)); intro gb344 hg w188 hbox hb; have GW344 := zg HB hg; have GE344 := zg HB hg; have NB339_344 := zn BK339 hg; have NB344_339 := zn' BK339 hg; have NB340_344 := zn BK340 hg; have NB344_340 := zn' BK340 hg; have NB341_344 := zn BK341 hg; have NB344_341 := zn' BK341 hg; have NB342_344 := zn BK342 hg; have NB344_342 := zn' BK342 hg; have NB343_344 := zn BK343 hg; have NB344_343 := zn' BK343 hg; have n0_ := Aside0.mk (hbox); replace BK339 := zk BK339 hb; replace BK340 := zk BK340 hb; replace BK341 := zk BK341 hb; replace BK342 := zk BK342 hb; replace BK343 := zk BK343 hb; replace HB := zb HB hb; have BK344 := n0_; clear n0_; clear hb hbox hg; have hnb189 := NB339_340.out; have hnc189 := NB340_339.out; have hnb190 := NB339_341.out; have hnc190 := NB341_339.out; have hnb191 := NB339_342.out; have hnc191 := NB342_339.out; have hnb192 := NB339_343.out; have hnc192 := NB343_339.out; have hnb193 := NB339_344.out; have hnc193 := NB344_339.out; obtain ⟨hcz194_0, hcz194_1, hcz194_2, hfz194_0, hfz194_1, hfz194_2⟩ := zq3 BK339) | ((with_reducible refine gate_callee (f := 22) rfl ?_); refine goesL_ (some 32) rfl rfl Try.func22 (by kernel_rfl) rfl #[.agg #[.int .i64 a0_0, .int .i64 a0_1, .slice A0_2 l0_2.length c0_2]] rfl (by (try simp only [List.map_toArray, List.map_cons, List.map_nil]); first | done | rfl | (simp only [List.length_drop, List.length_take]; rfl)) ?_; (with_reducible refine (raster_Check.calls k a0_0 a0_1 _ _ l0_2 t345 _ ?side1 ?side2 A7.out).mono ?_); (case side1 => repeat (first | exact (Kd.C_below HR0_2.out HB.out) | (with_reducible refine Kd.C_alloc ?_ _) | (with_reducible refine Kd.C_drewN ?_ _) | (with_reducible refine Kd.C_drew ?_))); (case side2 => exact HC0_2.out); rintro e w195 ⟨rfl, hb⟩; refine ⟨_, rfl, ?_⟩; replace BK339 := zk BK339 hb; replace BK340 := zk BK340 hb; replace BK341 := zk BK341 hb; replace BK342 := zk BK342 hb; replace BK343 := zk BK343 hb; replace BK344 := zk BK344 hb; replace HB := zb HB hb; (try clear hb); (try clear hb2); (try clear hk); (try clear hi); have hnb196 := NB342_340.out; have hnc196 := NB340_342.out; have hnb197 := NB342_341.out; have hnc197 := NB341_342.out; have hnb198 := NB342_343.out; have hnc198 := NB343_342.out; have hnb199 := NB342_344.out; have hnc199 := NB344_342.out; obtain ⟨hcz200_0, hcz200_1, hcz200_2, hcz200_3, hfz200_0, hfz200_1, hfz200_2, hfz200_3⟩ := zq4 BK342; have hnb201 := NB343_340.out; have hnc201 := NB340_343.out; have hnb202 := NB343_341.out; have hnc202 := NB341_343.out; have hnb203 := NB343_344.out; have hnc203 := NB344_343.out; obtain ⟨hcz204_0, hcz204_1, hcz204_2, hcz204_3, hfz204_0, hfz204_1, hfz204_2, hfz204_3⟩ := zq4 BK343; have hnb205 := NB341_340.out; have hnc205 := NB340_341.out; have hnb206 := NB341_344.out; have hnc206 := NB344_341.out; obtain ⟨hcz207_0, hcz207_1, hcz207_2, hcz207_3, hfz207_0, hfz207_1, hfz207_2, hfz207_3⟩ := zq4 BK341) | ((with_reducible refine gate_callee (f := 17) rfl ?_); refine goesL_ (some 42) rfl rfl Try.func17 (by kernel_rfl) rfl #[.agg #[.int .i64 a3_0, .int .i64 a3_1, .int .i64 a3_2, .slice A3_3 l3_3.length c3_3], .int .i64 a4, .agg #[.int .i64 a5_0, .int .i64 a5_1, .int .i64 a5_2, .int .i64 a5_3], .agg #[.int .i64 a2_0, .int .i64 a2_1, .int .i64 a2_2, .int .i64 a2_3]] rfl (by (try simp only [List.map_toArray, List.map_cons, List.map_nil]); first | done | rfl | (simp only [List.length_drop, List.length_take]; rfl)) ?_; (with_reducible refine (warp_Needs.calls k a3_0 a3_1 a3_2 _ _ l3_3 a4 a5_0 a5_1 a5_2 a5_3 a2_0 a2_1 a2_2 a2_3 t346 t347 t348 t349 t350 _ ?side1 ?side2 A9.out).mono ?_); (case side1 => repeat (first | exact (Kd.C_below HR3_3.out HB.out) | (with_reducible refine Kd.C_alloc ?_ _) | (with_reducible refine Kd.C_drewN ?_ _) | (with_reducible refine Kd.C_drew ?_))); (case side2 => exact HC3_3.out); rintro e w208 ⟨rfl, hb⟩; refine ⟨_, rfl, ?_⟩; replace BK339 := zk BK339 hb; replace BK340 := zk BK340 hb; replace BK341 := zk BK341 hb; replace BK342 := zk BK342 hb; replace BK343 := zk BK343 hb; replace BK344 := zk BK344 hb; replace HB := zb HB hb; (try clear hb); (try clear hb2); (try clear hk); (try clear hi)) | ((with_reducible refine gate_dst (N := 15) rfl ?_); refine box_event ?hg (N := 15) ?hd (cs := #[.int .i64 0, .int .i64 0, .int .i64 0, .int .i64 0]) (t := 34) ?hr ?_; (case hd => rfl); (case hg => rfl); (case hr => first | (go_simp; done) | (go_simp; rfl)); intro gb351 hg w209 hbox hb; have GW351 := zg HB hg; have GE351 := zg HB hg; have NB339_351 := zn BK339 hg; have NB351_339 := zn' BK339 hg; have NB340_351 := zn BK340 hg; have NB351_340 := zn' BK340 hg; have NB341_351 := zn BK341 hg; have NB351_341 := zn' BK341 hg; have NB342_351 := zn BK342 hg; have NB351_342 := zn' BK342 hg; have NB343_351 := zn BK343 hg; have NB351_343 := zn' BK343 hg; have NB344_351 := zn BK344 hg; have NB351_344 := zn' BK344 hg; have n0_ := Aside0.mk (hbox); replace BK339 := zk BK339 hb; replace BK340 := zk BK340 hb; replace BK341 := zk BK341 hb; replace BK342 := zk BK342 hb; replace BK343 := zk BK343 hb; replace BK344 := zk BK344 hb; replace HB := zb HB hb; have BK351 := n0_; clear n0_; clear hb hbox hg; have hnb210 := NB351_339.out; have hnc210 := NB339_351.out; have hnb211 := NB351_340.out; have hnc211 := NB340_351.out; have hnb212 := NB351_341.out; have hnc212 := NB341_351.out; have hnb213 := NB351_342.out; have hnc213 := NB342_351.out; have hnb214 := NB351_343.out; have hnc214 := NB343_351.out; have hnb215 := NB351_344.out; have hnc215 := NB344_351.out; obtain ⟨hcz216_0, hcz216_1, hcz216_2, hcz216_3, hfz216_0, hfz216_1, hfz216_2, hfz216_3⟩ := zq4 BK351; have hnb217 := NB344_340.out; have hnc217 := NB340_344.out; obtain ⟨hcz218_0, hcz218_1, hcz218_2, hfz218_0, hfz218_1, hfz218_2⟩ := zq3 BK344))
    refine bodyPost_ret (results_ct rfl _ _ gb344 40 #[.int .i64 0, .int .i64 0, .slice none 0 0] (0, 0) _ rfl (by (with_reducible repeat (first | refine blk_drewN ?_ _ | refine blk_drew ?_ | refine blk_alloc ?_ _)); refine blk_put (cs := #[.int .i64 0, .int .i64 0, .slice none 0 0]) ?_ 2 _ rfl; (with_reducible repeat (first | refine blk_drewN ?_ _ | refine blk_drew ?_ | refine blk_alloc ?_ _)); refine blk_put (cs := #[.int .i64 0, .int .i64 0, .slice none 0 0]) ?_ 1 _ rfl; (with_reducible repeat (first | refine blk_drewN ?_ _ | refine blk_drew ?_ | refine blk_alloc ?_ _)); refine blk_put (cs := #[.int .i64 0, .int .i64 0, .slice none 0 0]) ?_ 0 _ rfl; (with_reducible repeat (first | refine blk_drewN ?_ _ | refine blk_drew ?_ | refine blk_alloc ?_ _)); refine blk_far ?_ NB344_351.out _; (with_reducible repeat (first | refine blk_drewN ?_ _ | refine blk_drew ?_ | refine blk_alloc ?_ _)); refine blk_far ?_ NB344_351.out _; (with_reducible repeat (first | refine blk_drewN ?_ _ | refine blk_drew ?_ | refine blk_alloc ?_ _)); refine blk_far ?_ NB344_351.out _; (with_reducible repeat (first | refine blk_drewN ?_ _ | refine blk_drew ?_ | refine blk_alloc ?_ _)); refine blk_far ?_ NB344_351.out _; (with_reducible repeat (first | refine blk_drewN ?_ _ | refine blk_drew ?_ | refine blk_alloc ?_ _)); exact BK344.out) Try.underlying40 rfl (by kernel_rfl)) rfl ?_
    exact ⟨_, by first | rfl | (simp [errW_none, errW_some] <;> rfl) | (simp [*, errW_none, errW_some] <;> rfl), by first | exact Kd.R_nil _ _ _ _ _ | exact Kd.N_nil _ _ _ _ _ | exact Kd.V_nil _ _ _ _ _ | exact Kd.Q_nil _ _ _ _ _ | exact Kd.S_nil _ _ _ _ _, by repeat (first | (with_reducible first | exact HB.out | apply below_alloc | apply pw_below_drewN | apply below_drew1 | refine below_set ?_ GE344.out | refine below_set ?_ GE351.out) | exact HB.out)⟩
 ·rw [if_neg c8] at H
  have c8b0 : (t345 == 0) = false := beq_eq_false_iff_ne.mpr c8
  have c8b1 : (t345 != 0) = true := bne_iff_ne.mpr c8
  as_aux_lemma =>
   simp only [Option.some.injEq, Prod.mk.injEq] at H
   obtain ⟨rfl, rfl, rfl, rfl⟩ := H
   go_enter Try.func19, Try.ntmps19
   go_wp2_with (first | ((with_reducible refine gate_dst (N := 6) rfl ?_); refine box_event ?hg (N := 6) ?hd (cs := #[.int .i64 a0_0, .int .i64 a0_1, .slice A0_2 l0_2.length c0_2]) (t := 40) ?hr ?_; (case hd => rfl); (case hg => rfl); (case hr => first | (go_simp; done) | (go_simp; rfl)); intro gb339 hg w219 hbox hb; have GW339 := zg HB hg; have GE339 := zg HB hg; have n0_ := Aside0.mk (hbox); replace HB := zb HB hb; have BK339 := n0_; clear n0_; clear hb hbox hg) | ((with_reducible refine gate_dst (N := 7) rfl ?_); refine box_event ?hg (N := 7) ?hd (cs := #[.int .i64 a1_0, .int .i64 a1_1]) (t := 28) ?hr ?_; (case hd => rfl); (case hg => rfl); (case hr => first | (go_simp; done) | (go_simp; rfl)); intro gb340 hg w220 hbox hb; have GW340 := zg HB hg; have GE340 := zg HB hg; have NB339_340 := zn BK339 hg; have NB340_339 := zn' BK339 hg; have n0_ := Aside0.mk (hbox); replace BK339 := zk BK339 hb; replace HB := zb HB hb; have BK340 := n0_; clear n0_; clear hb hbox hg) | ((with_reducible refine gate_dst (N := 8) rfl ?_); refine box_event ?hg (N := 8) ?hd (cs := #[.int .i64 a2_0, .int .i64 a2_1, .int .i64 a2_2, .int .i64 a2_3]) (t := 34) ?hr ?_; (case hd => rfl); (case hg => rfl); (case hr => first | (go_simp; done) | (go_simp; rfl)); intro gb341 hg w221 hbox hb; have GW341 := zg HB hg; have GE341 := zg HB hg; have NB339_341 := zn BK339 hg; have NB341_339 := zn' BK339 hg; have NB340_341 := zn BK340 hg; have NB341_340 := zn' BK340 hg; have n0_ := Aside0.mk (hbox); replace BK339 := zk BK339 hb; replace BK340 := zk BK340 hb; replace HB := zb HB hb; have BK341 := n0_; clear n0_; clear hb hbox hg) | ((with_reducible refine gate_dst (N := 9) rfl ?_); refine box_event ?hg (N := 9) ?hd (cs := #[.int .i64 a3_0, .int .i64 a3_1, .int .i64 a3_2, .slice A3_3 l3_3.length c3_3]) (t := 24) ?hr ?_; (case hd => rfl); (case hg => rfl); (case hr => first | (go_simp; done) | (go_simp; rfl)); intro gb342 hg w222 hbox hb; have GW342 := zg HB hg; have GE342 := zg HB hg; have NB339_342 := zn BK339 hg; have NB342_339 := zn' BK339 hg; have NB340_342 := zn BK340 hg; have NB342_340 := zn' BK340 hg; have NB341_342 := zn BK341 hg; have NB342_341 := zn' BK341 hg; have n0_ := Aside0.mk (hbox); replace BK339 := zk BK339 hb; replace BK340 := zk BK340 hb; replace BK341 := zk BK341 hb; replace HB := zb HB hb; have BK342 := n0_; clear n0_; clear hb hbox hg) | ((with_reducible refine gate_dst (N := 11) rfl ?_); refine box_event ?hg (N := 11) ?hd (cs := #[.int .i64 a5_0, .int .i64 a5_1, .int .i64 a5_2, .int .i64 a5_3]) (t := 34) ?hr ?_; (case hd => rfl); (case hg => rfl); (case hr => first | (go_simp; done) | (go_simp; rfl)); intro gb343 hg w223 hbox hb; have GW343 := zg HB hg; have GE343 := zg HB hg; have NB339_343 := zn BK339 hg; have NB343_339 := zn' BK339 hg; have NB340_343 := zn BK340 hg; have NB343_340 := zn' BK340 hg; have NB341_343 := zn BK341 hg; have NB343_341 := zn' BK341 hg; have NB342_343 := zn BK342 hg; have NB343_342 := zn' BK342 hg; have n0_ := Aside0.mk (hbox); replace BK339 := zk BK339 hb; replace BK340 := zk BK340 hb; replace BK341 := zk BK341 hb; replace BK342 := zk BK342 hb; replace HB := zb HB hb; have BK343 := n0_; clear n0_; clear hb hbox hg) | ((with_reducible refine gate_dst (N := 12) rfl ?_); refine box_event ?hg (N := 12) ?hd (cs := #[.int .i64 0, .int .i64 0, .slice none 0 0]) (t := 40) ?hr ?_; (case hd => rfl); (case hg => rfl); (case hr => first | (go_simp; done) | (go_simp; rfl)); intro gb344 hg w224 hbox hb; have GW344 := zg HB hg; have GE344 := zg HB hg; have NB339_344 := zn BK339 hg; have NB344_339 := zn' BK339 hg; have NB340_344 := zn BK340 hg; have NB344_340 := zn' BK340 hg; have NB341_344 := zn BK341 hg; have NB344_341 := zn' BK341 hg; have NB342_344 := zn BK342 hg; have NB344_342 := zn' BK342 hg; have NB343_344 := zn BK343 hg; have NB344_343 := zn' BK343 hg; have n0_ := Aside0.mk (hbox); replace BK339 := zk BK339 hb; replace BK340 := zk BK340 hb; replace BK341 := zk BK341 hb; replace BK342 := zk BK342 hb; replace BK343 := zk BK343 hb; replace HB := zb HB hb; have BK344 := n0_; clear n0_; clear hb hbox hg; have hnb225 := NB339_340.out; have hnc225 := NB340_339.out; have hnb226 := NB339_341.out; have hnc226 := NB341_339.out; have hnb227 := NB339_342.out; have hnc227 := NB342_339.out; have hnb228 := NB339_343.out; have hnc228 := NB343_339.out; have hnb229 := NB339_344.out; have hnc229 := NB344_339.out; obtain ⟨hcz230_0, hcz230_1, hcz230_2, hfz230_0, hfz230_1, hfz230_2⟩ := zq3 BK339) | ((with_reducible refine gate_callee (f := 22) rfl ?_); refine goesL_ (some 32) rfl rfl Try.func22 (by kernel_rfl) rfl #[.agg #[.int .i64 a0_0, .int .i64 a0_1, .slice A0_2 l0_2.length c0_2]] rfl (by (try simp only [List.map_toArray, List.map_cons, List.map_nil]); first | done | rfl | (simp only [List.length_drop, List.length_take]; rfl)) ?_; (with_reducible refine (raster_Check.calls k a0_0 a0_1 _ _ l0_2 t345 _ ?side1 ?side2 A7.out).mono ?_); (case side1 => repeat (first | exact (Kd.C_below HR0_2.out HB.out) | (with_reducible refine Kd.C_alloc ?_ _) | (with_reducible refine Kd.C_drewN ?_ _) | (with_reducible refine Kd.C_drew ?_))); (case side2 => exact HC0_2.out); rintro e w231 ⟨rfl, hb⟩; refine ⟨_, rfl, ?_⟩; replace BK339 := zk BK339 hb; replace BK340 := zk BK340 hb; replace BK341 := zk BK341 hb; replace BK342 := zk BK342 hb; replace BK343 := zk BK343 hb; replace BK344 := zk BK344 hb; replace HB := zb HB hb; (try clear hb); (try clear hb2); (try clear hk); (try clear hi); have hnb232 := NB344_340.out; have hnc232 := NB340_344.out; have hnb233 := NB344_341.out; have hnc233 := NB341_344.out; have hnb234 := NB344_342.out; have hnc234 := NB342_344.out; have hnb235 := NB344_343.out; have hnc235 := NB343_344.out; obtain ⟨hcz236_0, hcz236_1, hcz236_2, hfz236_0, hfz236_1, hfz236_2⟩ := zq3 BK344))
   refine bodyPost_ret (results_ct rfl _ _ gb344 40 #[.int .i64 0, .int .i64 0, .slice none 0 0] (0, 0) _ rfl (by exact zp BK344 rfl) Try.underlying40 rfl (by kernel_rfl)) rfl ?_
   exact ⟨_, by first | rfl | (simp [errW_none, errW_some] <;> rfl) | (simp [*, errW_none, errW_some] <;> rfl), by first | exact Kd.R_nil _ _ _ _ _ | exact Kd.N_nil _ _ _ _ _ | exact Kd.V_nil _ _ _ _ _ | exact Kd.Q_nil _ _ _ _ _ | exact Kd.S_nil _ _ _ _ _, by exact zbo HB GE344⟩

end Go.Proofs.Ytnfbabmceddciaa.G
