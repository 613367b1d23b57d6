/- Contracts of functions of the program, each as it is called: what it computes (.f), that it computes no less with more rounds (.mono), and that a call returns just that (.calls). No conditions but those that each contract names. Written by a program of this session (wip/gx.py over the kit's print). -/
import Derived.Test.YtnfbabmceddciaaG0
import Derived.Test.YtnfbabmceddciaaG2
import Derived.Test.YtnfbabmceddciaaG4
import Derived.Test.YtnfbabmceddciaaG8
import Derived.Test.YtnfbabmceddciaaG9
import Derived.Test.YtnfbabmceddciaaG12
import Derived.Test.YtnfbabmceddciaaG13
import Derived.Test.YtnfbabmceddciaaG22
import Derived.Test.YtnfbabmceddciaaG28
import Derived.Test.YtnfbabmceddciaaG30
import Derived.Test.YtnfbabmceddciaaG31
namespace Go.Proofs.Ytnfbabmceddciaa.G
open Go.RowKit Go.Proofs.YtnfbabmceddciaaW.PrintWords Go.Proofs.YtnfbabmceddciaaW.PrintLast Go.Proofs.YtnfbabmceddciaaW.PrintMore
attribute [local go_sem] max2_int min2_int max_two min_two max_three min_three max_four min_four max_five min_five   -- for this text's walks alone
set_option linter.unusedVariables false
set_option linter.unusedSimpArgs false


/-! ### imageeditorlaw15_WarpIgnores: function 9 -/
mutual
def imageeditorlaw15_WarpIgnores.j0 : Nat → Int → Bool → Int → Int → List (S48) → Int → Int → Int → List (S28) → Int → Int → Int → Int → Int → Int → Int → Int → Option (Bool)
 | 0, _, _, _, _, _, _, _, _, _, _, _, _, _, _, _, _, _ => none
 | k + 1, x2, x29, G4, G5, V7, V3, V4, V5, V6, G8, G9, V0, V1, Y1, Y2, Y3, Y4 => if x29 = true then ((imageeditorlaw15_awake.f k).bind fun t921 => (some t921)) else ((warp_Needs.f k V3 V4 V5 V6 x2 G8 G9 V0 V1 0 0 G4 G5).bind fun E9 => (if E9.2.2.2.2 = 0 then ((warp_Draw.f k G4 G5 V7 0 0 0 0 G4 G5 V3 V4 V5 V6 x2 G8 G9 V0 V1).bind fun G2 => ((raster_Crop.f k G4 G5 V7 E9.1 E9.2.1 E9.2.2.1 E9.2.2.2.1).bind fun G3 => ((warp_Draw.f k G3.1 G3.2.1 G3.2.2.1 E9.1 E9.2.1 0 0 G4 G5 V3 V4 V5 V6 x2 G8 G9 V0 V1).bind fun J4 => (if G2.2.2.2 = 0 then (if G3.2.2.2 = 0 then (if J4.2.2.2 = 0 then ((imageeditorlaw15_same.f k G2.1 G2.2.1 G2.2.2.1 J4.1 J4.2.1 J4.2.2.1).bind fun t951 => (if t951 = true then ((rect_Within.f E9.1 E9.2.1 E9.2.2.1 E9.2.2.2.1 0 0 G4 G5).bind fun t952 => (if t952 = true then ((rect_Within.f G8 G9 V0 V1 E9.1 E9.2.1 E9.2.2.1 E9.2.2.2.1).bind fun t953 => (imageeditorlaw15_WarpIgnores.j1 k x2 (!t953) G4 G5 V7 V3 V4 V5 V6 G8 G9 V0 V1 Y1 Y2 Y3 Y4 0 0 G4 G5 E9.1 E9.2.1 E9.2.2.1 E9.2.2.2.1 G2.1 G2.2.1 G2.2.2.1 G3.1 G3.2.1 G3.2.2.1)) else (imageeditorlaw15_WarpIgnores.j1 k x2 true G4 G5 V7 V3 V4 V5 V6 G8 G9 V0 V1 Y1 Y2 Y3 Y4 0 0 G4 G5 E9.1 E9.2.1 E9.2.2.1 E9.2.2.2.1 G2.1 G2.2.1 G2.2.2.1 G3.1 G3.2.1 G3.2.2.1))) else (imageeditorlaw15_WarpIgnores.j1 k x2 true G4 G5 V7 V3 V4 V5 V6 G8 G9 V0 V1 Y1 Y2 Y3 Y4 0 0 G4 G5 E9.1 E9.2.1 E9.2.2.1 E9.2.2.2.1 G2.1 G2.2.1 G2.2.2.1 G3.1 G3.2.1 G3.2.2.1))) else (imageeditorlaw15_WarpIgnores.j1 k x2 true G4 G5 V7 V3 V4 V5 V6 G8 G9 V0 V1 Y1 Y2 Y3 Y4 0 0 G4 G5 E9.1 E9.2.1 E9.2.2.1 E9.2.2.2.1 G2.1 G2.2.1 G2.2.2.1 G3.1 G3.2.1 G3.2.2.1)) else (imageeditorlaw15_WarpIgnores.j1 k x2 true G4 G5 V7 V3 V4 V5 V6 G8 G9 V0 V1 Y1 Y2 Y3 Y4 0 0 G4 G5 E9.1 E9.2.1 E9.2.2.1 E9.2.2.2.1 G2.1 G2.2.1 G2.2.2.1 G3.1 G3.2.1 G3.2.2.1)) else (imageeditorlaw15_WarpIgnores.j1 k x2 true G4 G5 V7 V3 V4 V5 V6 G8 G9 V0 V1 Y1 Y2 Y3 Y4 0 0 G4 G5 E9.1 E9.2.1 E9.2.2.1 E9.2.2.2.1 G2.1 G2.2.1 G2.2.2.1 G3.1 G3.2.1 G3.2.2.1))))) else ((imageeditorlaw15_awake.f k).bind fun t929 => (some t929))))
def imageeditorlaw15_WarpIgnores.j1 : Nat → Int → Bool → Int → Int → List (S48) → Int → Int → Int → List (S28) → Int → Int → Int → Int → Int → Int → Int → Int → Int → Int → Int → Int → Int → Int → Int → Int → Int → Int → List (S48) → Int → Int → List (S48) → Option (Bool)
 | 0, _, _, _, _, _, _, _, _, _, _, _, _, _, _, _, _, _, _, _, _, _, _, _, _, _, _, _, _, _, _, _ => none
 | k + 1, x2, x104, G4, G5, V7, V3, V4, V5, V6, G8, G9, V0, V1, Y1, Y2, Y3, Y4, E1H, E1I, E1J, E1K, E1L, E1M, E6E, E6F, E1N, E1O, E1P, E1Q, E1R, E1S => if x104 = true then (some false) else ((raster_New.f k G4 G5 Y1 Y2 Y3 Y4).bind fun J5 => (if J5.2.2.2 = 0 then ((raster_Put.f k J5.1 J5.2.1 J5.2.2.1 E1Q E1R E1S E1L E1M).bind fun J6 => ((warp_Draw.f k J6.1 J6.2.1 J6.2.2.1 0 0 E1H E1I E1J E1K V3 V4 V5 V6 x2 G8 G9 V0 V1).bind fun J7 => (if J6.2.2.2 = 0 then (if J7.2.2.2 = 0 then ((imageeditorlaw15_same.f k E1N E1O E1P J7.1 J7.2.1 J7.2.2.1).bind fun t976 => (if t976 = true then ((imageeditorlaw15_awake.f k).bind fun t977 => (some t977)) else (some false))) else (some false)) else (some false)))) else ((imageeditorlaw15_awake.f k).bind fun t961 => (some t961))))
end
def imageeditorlaw15_WarpIgnores.f (k : Nat) (a0_0 : Int) (a0_1 : Int) (l0_2 : List (S48)) (a1_0 : Int) (a1_1 : Int) (a1_2 : Int) (l1_3 : List (S28)) (a2 : Int) (a3_0 : Int) (a3_1 : Int) (a3_2 : Int) (a3_3 : Int) (a4_0 : Int) (a4_1 : Int) (a4_2 : Int) (a4_3 : Int) : Option (Bool) := (raster_Check.f k a0_0 a0_1 l0_2).bind fun t919 => (if t919 = 0 then ((imageeditorref15_Check.f k a1_0 a1_1 a1_2 l1_3).bind fun t920 => (imageeditorlaw15_WarpIgnores.j0 k a2 (t920 != 0) a0_0 a0_1 l0_2 a1_0 a1_1 a1_2 l1_3 a3_0 a3_1 a3_2 a3_3 a4_0 a4_1 a4_2 a4_3)) else (imageeditorlaw15_WarpIgnores.j0 k a2 true a0_0 a0_1 l0_2 a1_0 a1_1 a1_2 l1_3 a3_0 a3_1 a3_2 a3_3 a4_0 a4_1 a4_2 a4_3))
theorem imageeditorlaw15_WarpIgnores.mono_l : ∀ k, (∀ y0 y1 y2 y3 y4 y5 y6 y7 y8 y9 y10 y11 y12 y13 y14 y15 y16, LeO (imageeditorlaw15_WarpIgnores.j0 k y0 y1 y2 y3 y4 y5 y6 y7 y8 y9 y10 y11 y12 y13 y14 y15 y16) (imageeditorlaw15_WarpIgnores.j0 (k + 1) y0 y1 y2 y3 y4 y5 y6 y7 y8 y9 y10 y11 y12 y13 y14 y15 y16)) ∧ (∀ y0 y1 y2 y3 y4 y5 y6 y7 y8 y9 y10 y11 y12 y13 y14 y15 y16 y17 y18 y19 y20 y21 y22 y23 y24 y25 y26 y27 y28 y29 y30, LeO (imageeditorlaw15_WarpIgnores.j1 k y0 y1 y2 y3 y4 y5 y6 y7 y8 y9 y10 y11 y12 y13 y14 y15 y16 y17 y18 y19 y20 y21 y22 y23 y24 y25 y26 y27 y28 y29 y30) (imageeditorlaw15_WarpIgnores.j1 (k + 1) y0 y1 y2 y3 y4 y5 y6 y7 y8 y9 y10 y11 y12 y13 y14 y15 y16 y17 y18 y19 y20 y21 y22 y23 y24 y25 y26 y27 y28 y29 y30))
 | 0 => ⟨fun _ _ _ _ _ _ _ _ _ _ _ _ _ _ _ _ _ r h => by simp [imageeditorlaw15_WarpIgnores.j0] at h, fun _ _ _ _ _ _ _ _ _ _ _ _ _ _ _ _ _ _ _ _ _ _ _ _ _ _ _ _ _ _ _ r h => by simp [imageeditorlaw15_WarpIgnores.j1] at h⟩
 | k + 1 => by
  obtain ⟨ih0, ih1⟩ := imageeditorlaw15_WarpIgnores.mono_l k
  refine ⟨?_, ?_⟩
  ·intro y0 y1 y2 y3 y4 y5 y6 y7 y8 y9 y10 y11 y12 y13 y14 y15 y16
   unfold imageeditorlaw15_WarpIgnores.j0
   repeat' first
   | (with_reducible exact ih0 _ _ _ _ _ _ _ _ _ _ _ _ _ _ _ _ _)
   | (with_reducible exact ih1 _ _ _ _ _ _ _ _ _ _ _ _ _ _ _ _ _ _ _ _ _ _ _ _ _ _ _ _ _ _ _)
   | (with_reducible exact imageeditorlaw15_awake.mono _)
   | (with_reducible exact imageeditorlaw15_same.mono _ _ _ _ _ _ _)
   | (with_reducible exact imageeditorref15_Check.mono _ _ _ _ _)
   | (with_reducible exact raster_Check.mono _ _ _ _)
   | (with_reducible exact raster_Crop.mono _ _ _ _ _ _ _ _)
   | (with_reducible exact raster_New.mono _ _ _ _ _ _ _)
   | (with_reducible exact raster_Put.mono _ _ _ _ _ _ _ _ _)
   | (with_reducible exact warp_Draw.mono _ _ _ _ _ _ _ _ _ _ _ _ _ _ _ _ _ _ _)
   | (with_reducible exact warp_Needs.mono _ _ _ _ _ _ _ _ _ _ _ _ _ _)
   | (with_reducible exact LeO.refl _)
   | (with_reducible exact LeO.none _)
   | (with_reducible refine LeO.ite ?_ ?_)
   | (with_reducible refine LeO.bind ?_ (fun _ => ?_))
   | exact ih0 _ _ _ _ _ _ _ _ _ _ _ _ _ _ _ _ _
   | exact ih1 _ _ _ _ _ _ _ _ _ _ _ _ _ _ _ _ _ _ _ _ _ _ _ _ _ _ _ _ _ _ _
   | exact imageeditorlaw15_awake.mono _
   | exact imageeditorlaw15_same.mono _ _ _ _ _ _ _
   | exact imageeditorref15_Check.mono _ _ _ _ _
   | exact raster_Check.mono _ _ _ _
   | exact raster_Crop.mono _ _ _ _ _ _ _ _
   | exact raster_New.mono _ _ _ _ _ _ _
   | exact raster_Put.mono _ _ _ _ _ _ _ _ _
   | exact warp_Draw.mono _ _ _ _ _ _ _ _ _ _ _ _ _ _ _ _ _ _ _
   | exact warp_Needs.mono _ _ _ _ _ _ _ _ _ _ _ _ _ _
   | exact LeO.none _
   | refine LeO.ite ?_ ?_
   | refine LeO.bind ?_ (fun _ => ?_)
  ·intro y0 y1 y2 y3 y4 y5 y6 y7 y8 y9 y10 y11 y12 y13 y14 y15 y16 y17 y18 y19 y20 y21 y22 y23 y24 y25 y26 y27 y28 y29 y30
   unfold imageeditorlaw15_WarpIgnores.j1
   repeat' first
   | (with_reducible exact ih0 _ _ _ _ _ _ _ _ _ _ _ _ _ _ _ _ _)
   | (with_reducible exact ih1 _ _ _ _ _ _ _ _ _ _ _ _ _ _ _ _ _ _ _ _ _ _ _ _ _ _ _ _ _ _ _)
   | (with_reducible exact imageeditorlaw15_awake.mono _)
   | (with_reducible exact imageeditorlaw15_same.mono _ _ _ _ _ _ _)
   | (with_reducible exact imageeditorref15_Check.mono _ _ _ _ _)
   | (with_reducible exact raster_Check.mono _ _ _ _)
   | (with_reducible exact raster_Crop.mono _ _ _ _ _ _ _ _)
   | (with_reducible exact raster_New.mono _ _ _ _ _ _ _)
   | (with_reducible exact raster_Put.mono _ _ _ _ _ _ _ _ _)
   | (with_reducible exact warp_Draw.mono _ _ _ _ _ _ _ _ _ _ _ _ _ _ _ _ _ _ _)
   | (with_reducible exact warp_Needs.mono _ _ _ _ _ _ _ _ _ _ _ _ _ _)
   | (with_reducible exact LeO.refl _)
   | (with_reducible exact LeO.none _)
   | (with_reducible refine LeO.ite ?_ ?_)
   | (with_reducible refine LeO.bind ?_ (fun _ => ?_))
   | exact ih0 _ _ _ _ _ _ _ _ _ _ _ _ _ _ _ _ _
   | exact ih1 _ _ _ _ _ _ _ _ _ _ _ _ _ _ _ _ _ _ _ _ _ _ _ _ _ _ _ _ _ _ _
   | exact imageeditorlaw15_awake.mono _
   | exact imageeditorlaw15_same.mono _ _ _ _ _ _ _
   | exact imageeditorref15_Check.mono _ _ _ _ _
   | exact raster_Check.mono _ _ _ _
   | exact raster_Crop.mono _ _ _ _ _ _ _ _
   | exact raster_New.mono _ _ _ _ _ _ _
   | exact raster_Put.mono _ _ _ _ _ _ _ _ _
   | exact warp_Draw.mono _ _ _ _ _ _ _ _ _ _ _ _ _ _ _ _ _ _ _
   | exact warp_Needs.mono _ _ _ _ _ _ _ _ _ _ _ _ _ _
   | exact LeO.none _
   | refine LeO.ite ?_ ?_
   | refine LeO.bind ?_ (fun _ => ?_)
theorem imageeditorlaw15_WarpIgnores.mono : ∀ a0 a1 a2 a3 a4 a5 a6 a7 a8 a9 a10 a11 a12 a13 a14 a15 k, LeO (imageeditorlaw15_WarpIgnores.f k a0 a1 a2 a3 a4 a5 a6 a7 a8 a9 a10 a11 a12 a13 a14 a15) (imageeditorlaw15_WarpIgnores.f (k + 1) a0 a1 a2 a3 a4 a5 a6 a7 a8 a9 a10 a11 a12 a13 a14 a15) := by
 intro a0 a1 a2 a3 a4 a5 a6 a7 a8 a9 a10 a11 a12 a13 a14 a15 k
 obtain ⟨ih0, ih1⟩ := imageeditorlaw15_WarpIgnores.mono_l k
 unfold imageeditorlaw15_WarpIgnores.f
 repeat' first
   | (with_reducible exact ih0 _ _ _ _ _ _ _ _ _ _ _ _ _ _ _ _ _)
   | (with_reducible exact ih1 _ _ _ _ _ _ _ _ _ _ _ _ _ _ _ _ _ _ _ _ _ _ _ _ _ _ _ _ _ _ _)
   | (with_reducible exact imageeditorlaw15_awake.mono _)
   | (with_reducible exact imageeditorlaw15_same.mono _ _ _ _ _ _ _)
   | (with_reducible exact imageeditorref15_Check.mono _ _ _ _ _)
   | (with_reducible exact raster_Check.mono _ _ _ _)
   | (with_reducible exact raster_Crop.mono _ _ _ _ _ _ _ _)
   | (with_reducible exact raster_New.mono _ _ _ _ _ _ _)
   | (with_reducible exact raster_Put.mono _ _ _ _ _ _ _ _ _)
   | (with_reducible exact warp_Draw.mono _ _ _ _ _ _ _ _ _ _ _ _ _ _ _ _ _ _ _)
   | (with_reducible exact warp_Needs.mono _ _ _ _ _ _ _ _ _ _ _ _ _ _)
   | (with_reducible exact LeO.refl _)
   | (with_reducible exact LeO.none _)
   | (with_reducible refine LeO.ite ?_ ?_)
   | (with_reducible refine LeO.bind ?_ (fun _ => ?_))
   | exact ih0 _ _ _ _ _ _ _ _ _ _ _ _ _ _ _ _ _
   | exact ih1 _ _ _ _ _ _ _ _ _ _ _ _ _ _ _ _ _ _ _ _ _ _ _ _ _ _ _ _ _ _ _
   | exact imageeditorlaw15_awake.mono _
   | exact imageeditorlaw15_same.mono _ _ _ _ _ _ _
   | exact imageeditorref15_Check.mono _ _ _ _ _
   | exact raster_Check.mono _ _ _ _
   | exact raster_Crop.mono _ _ _ _ _ _ _ _
   | exact raster_New.mono _ _ _ _ _ _ _
   | exact raster_Put.mono _ _ _ _ _ _ _ _ _
   | exact warp_Draw.mono _ _ _ _ _ _ _ _ _ _ _ _ _ _ _ _ _ _ _
   | exact warp_Needs.mono _ _ _ _ _ _ _ _ _ _ _ _ _ _
   | exact LeO.none _
   | refine LeO.ite ?_ ?_
   | refine LeO.bind ?_ (fun _ => ?_)
set_option maxHeartbeats 8000000 in
set_option maxRecDepth 100000 in
theorem imageeditorlaw15_WarpIgnores.callsT (k : Nat) (a0_0 : Int) (a0_1 : Int) (A0_2 : Option Addr) (c0_2 : Nat) (l0_2 : List (S48)) (a1_0 : Int) (a1_1 : Int) (a1_2 : Int) (A1_3 : Option Addr) (c1_3 : Nat) (l1_3 : List (S28)) (a2 : Int) (a3_0 : Int) (a3_1 : Int) (a3_2 : Int) (a3_3 : Int) (a4_0 : Int) (a4_1 : Int) (a4_2 : Int) (a4_3 : Int) (r : Bool) (w : World) (hr0_2 : Kd.C k48 w A0_2 l0_2.length l0_2) (hc0_2 : l0_2.length ≤ c0_2) (hr1_3 : Kd.C k28 w A1_3 l1_3.length l1_3) (hc1_3 : l1_3.length ≤ c1_3) (hT : r = true) (h : imageeditorlaw15_WarpIgnores.f k a0_0 a0_1 l0_2 a1_0 a1_1 a1_2 l1_3 a2 a3_0 a3_1 a3_2 a3_3 a4_0 a4_1 a4_2 a4_3 = some r) :
  Calls Try.prog 9 #[.agg #[.int .i64 a0_0, .int .i64 a0_1, .slice A0_2 l0_2.length c0_2], .agg #[.int .i64 a1_0, .int .i64 a1_1, .int .i64 a1_2, .slice A1_3 l1_3.length c1_3], .int .i64 a2, .agg #[.int .i64 a3_0, .int .i64 a3_1, .int .i64 a3_2, .int .i64 a3_3], .agg #[.int .i64 a4_0, .int .i64 a4_1, .int .i64 a4_2, .int .i64 a4_3]] w fun e w' => e = .returned (.bool r) ∧ Below w.heap.size w w' := by
 have hu40 := Try.underlying40
 have hu24 := Try.underlying24
 have hu34 := Try.underlying34
 have hu48 := Try.underlying48
 have hu28 := Try.underlying28
 have HT := Aside0.mk hT
 clear hT
 have J8 := Aside0.mk hr0_2
 have J9 := Aside0.mk hc0_2
 clear hr0_2 hc0_2
 have Z3 := Aside0.mk hr1_3
 have Z4 := Aside0.mk hc1_3
 clear hr1_3 hc1_3
 have HB := Aside0.mk (Below.refl w.heap.size w)
 have H : ((raster_Check.f k a0_0 a0_1 l0_2).bind fun t919 => (if t919 = 0 then ((imageeditorref15_Check.f k a1_0 a1_1 a1_2 l1_3).bind fun t920 => (imageeditorlaw15_WarpIgnores.j0 k a2 (t920 != 0) a0_0 a0_1 l0_2 a1_0 a1_1 a1_2 l1_3 a3_0 a3_1 a3_2 a3_3 a4_0 a4_1 a4_2 a4_3)) else (imageeditorlaw15_WarpIgnores.j0 k a2 true a0_0 a0_1 l0_2 a1_0 a1_1 a1_2 l1_3 a3_0 a3_1 a3_2 a3_3 a4_0 a4_1 a4_2 a4_3))) = some r := h
 clear h
 have HC6 := Aside0.mk H
 clear H
 go_enter Try.func9, Try.ntmps9
 go_upto_region 1 with (first | ((with_reducible refine gate_dst (N := 5) rfl ?_); refine box_event ?hg (N := 5) ?hd (cs := #[.int .i64 a0_0, .int .i64 a0_1, .slice A0_2 l0_2.length c0_2]) (t := 40) ?hr ?_; (case hd => rfl); (case hg => rfl); (case hr => first | (go_simp; done) | (go_simp; rfl)); intro E0D hg w7 hbox hb; have E6G := zg HB hg; have E6H := zg HB hg; have n0_ := Aside0.mk (hbox); replace HB := zb HB hb; have E2 := n0_; clear n0_; clear hb hbox hg) | ((with_reducible refine gate_dst (N := 6) rfl ?_); refine box_event ?hg (N := 6) ?hd (cs := #[.int .i64 a1_0, .int .i64 a1_1, .int .i64 a1_2, .slice A1_3 l1_3.length c1_3]) (t := 24) ?hr ?_; (case hd => rfl); (case hg => rfl); (case hr => first | (go_simp; done) | (go_simp; rfl)); intro E0E hg w8 hbox hb; have E6I := zg HB hg; have E6J := zg HB hg; have L0 := zn E2 hg; have L1 := zn' E2 hg; have n0_ := Aside0.mk (hbox); replace E2 := zk E2 hb; replace HB := zb HB hb; have E0 := n0_; clear n0_; clear hb hbox hg) | ((with_reducible refine gate_dst (N := 8) rfl ?_); refine box_event ?hg (N := 8) ?hd (cs := #[.int .i64 a3_0, .int .i64 a3_1, .int .i64 a3_2, .int .i64 a3_3]) (t := 34) ?hr ?_; (case hd => rfl); (case hg => rfl); (case hr => first | (go_simp; done) | (go_simp; rfl)); intro E0F hg w9 hbox hb; have E6K := zg HB hg; have E6L := zg HB hg; have L2 := zn E2 hg; have L3 := zn' E2 hg; have Q6 := zn E0 hg; have Q7 := zn' E0 hg; have n0_ := Aside0.mk (hbox); replace E2 := zk E2 hb; replace E0 := zk E0 hb; replace HB := zb HB hb; have E1 := n0_; clear n0_; clear hb hbox hg) | ((with_reducible refine gate_dst (N := 9) rfl ?_); refine box_event ?hg (N := 9) ?hd (cs := #[.int .i64 a4_0, .int .i64 a4_1, .int .i64 a4_2, .int .i64 a4_3]) (t := 48) ?hr ?_; (case hd => rfl); (case hg => rfl); (case hr => first | (go_simp; done) | (go_simp; rfl)); intro V2 hg w10 hbox hb; have E6M := zg HB hg; have E6N := zg HB hg; have L4 := zn E2 hg; have L5 := zn' E2 hg; have Q8 := zn E0 hg; have Q9 := zn' E0 hg; have E0a := zn E1 hg; have E0b := zn' E1 hg; have n0_ := Aside0.mk (hbox); replace E2 := zk E2 hb; replace E0 := zk E0 hb; replace E1 := zk E1 hb; replace HB := zb HB hb; have E4 := n0_; clear n0_; clear hb hbox hg))
 (try simp only [Act.put, sA, sB, sC])
 go_cut [29] (fun v29 wc => ∃ (kq : Nat) (x29_5 : Bool), v29 = .bool x29_5 ∧ Aside0 (imageeditorlaw15_WarpIgnores.j0 kq a2 x29_5 a0_0 a0_1 l0_2 a1_0 a1_1 a1_2 l1_3 a3_0 a3_1 a3_2 a3_3 a4_0 a4_1 a4_2 a4_3 = some r) ∧ Aside0 (kq ≤ k) ∧ Aside0 (wc.heap[E0D]? = some (.cells #[.int .i64 a0_0, .int .i64 a0_1, (.slice A0_2 l0_2.length c0_2)] 40 (0, 0))) ∧ Aside0 (wc.heap[E0E]? = some (.cells #[.int .i64 a1_0, .int .i64 a1_1, .int .i64 a1_2, (.slice A1_3 l1_3.length c1_3)] 24 (0, 0))) ∧ Aside0 (wc.heap[E0F]? = some (.cells #[.int .i64 a3_0, .int .i64 a3_1, .int .i64 a3_2, .int .i64 a3_3] 34 (0, 0))) ∧ Aside0 (wc.heap[V2]? = some (.cells #[.int .i64 a4_0, .int .i64 a4_1, .int .i64 a4_2, .int .i64 a4_3] 48 (0, 0))) ∧ Aside0 (Below w.heap.size w wc))
 case first =>
  have H := HC6.out
  clear HC6
  replace H := Option.bind_eq_some_iff.mp H
  obtain ⟨t919, A110, H⟩ := H
  try dsimp only at H
  have A11 := Aside0.mk A110
  clear A110
  by_cases c12 : t919 = 0
  ·rw [if_pos c12] at H
   have Y6 : (t919 == 0) = true := beq_iff_eq.mpr c12
   have E0c : (t919 != 0) = false := bne_eq_false_iff_eq.mpr c12
   clear c12
   (first | rw [Y6] | (simp only [i64_w, i32_w]; rw [Y6]) | skip)
   replace H := Option.bind_eq_some_iff.mp H
   obtain ⟨t920, A130, H⟩ := H
   try dsimp only at H
   have A13 := Aside0.mk A130
   clear A130
   as_aux_lemma =>
    have H' := Aside0.mk H
    clear H
    obtain ⟨E0G, E0H, E0I, E0J, E0K, E0L⟩ := zq3 E2
    go_wp2_with (first | ((with_reducible refine gate_callee (f := 22) rfl ?_); refine goesL_ (some 23) rfl rfl Try.func22 (by kernel_rfl) rfl #[.agg #[.int .i64 a0_0, .int .i64 a0_1, .slice A0_2 l0_2.length c0_2]] rfl (by (try simp only [List.map_toArray, List.map_cons, List.map_nil]); first | done | rfl | (simp only [List.length_drop, List.length_take]; rfl)) ?_; (with_reducible refine (raster_Check.calls k a0_0 a0_1 _ _ l0_2 t919 _ ?side1 ?side2 A11.out).mono ?_); (case side1 => repeat (first | exact (Kd.C_below J8.out HB.out) | (with_reducible refine Kd.C_alloc ?_ _) | (with_reducible refine Kd.C_drewN ?_ _) | (with_reducible refine Kd.C_drew ?_))); (case side2 => exact J9.out); rintro e w15 ⟨rfl, hb⟩; refine ⟨_, rfl, ?_⟩; replace E2 := zk E2 hb; replace E0 := zk E0 hb; replace E1 := zk E1 hb; replace E4 := zk E4 hb; replace HB := zb HB hb; (try clear hb); obtain ⟨E0M, E0N, E0O, E0P, E0Q, E0R, E0S, E0T⟩ := zq4 E0) | (go_at_call 11; (with_reducible refine (imageeditorref15_Check.calls k a1_0 a1_1 a1_2 _ _ l1_3 t920 _ ?side1 ?side2 A13.out).mono ?_); (case side1 => repeat (first | exact (Kd.C_below Z3.out HB.out) | (with_reducible refine Kd.C_alloc ?_ _) | (with_reducible refine Kd.C_drewN ?_ _) | (with_reducible refine Kd.C_drew ?_))); (case side2 => exact Z4.out); rintro e w17 ⟨rfl, hb⟩; replace E2 := zk E2 hb; replace E0 := zk E0 hb; replace E1 := zk E1 hb; replace E4 := zk E4 hb; replace HB := zb HB hb; (try clear hb)))
    go_meet
    case rel => exact ⟨_, ((t920 != 0)), (by first | rfl | (simp; done) | (simp [*]; done)), H', ⟨by first | omega | exact Nat.le_refl _⟩, ⟨by exact zk0 E2⟩, ⟨by exact zk0 E0⟩, ⟨by exact zk0 E1⟩, ⟨by exact zk0 E4⟩, ⟨by exact zb0 HB⟩⟩
  rw [if_neg c12] at H
  have Y6 : (t919 == 0) = false := beq_eq_false_iff_ne.mpr c12
  have E0c : (t919 != 0) = true := bne_iff_ne.mpr c12
  (first | rw [Y6] | (simp only [i64_w, i32_w]; rw [Y6]) | skip)
  as_aux_lemma =>
   have H' := Aside0.mk H
   clear H
   obtain ⟨E0U, E0V, E0W, E0X, E0Y, E0Z⟩ := zq3 E2
   go_wp2_with (first | ((with_reducible refine gate_callee (f := 22) rfl ?_); refine goesL_ (some 23) rfl rfl Try.func22 (by kernel_rfl) rfl #[.agg #[.int .i64 a0_0, .int .i64 a0_1, .slice A0_2 l0_2.length c0_2]] rfl (by (try simp only [List.map_toArray, List.map_cons, List.map_nil]); first | done | rfl | (simp only [List.length_drop, List.length_take]; rfl)) ?_; (with_reducible refine (raster_Check.calls k a0_0 a0_1 _ _ l0_2 t919 _ ?side1 ?side2 A11.out).mono ?_); (case side1 => repeat (first | exact (Kd.C_below J8.out HB.out) | (with_reducible refine Kd.C_alloc ?_ _) | (with_reducible refine Kd.C_drewN ?_ _) | (with_reducible refine Kd.C_drew ?_))); (case side2 => exact J9.out); rintro e w19 ⟨rfl, hb⟩; refine ⟨_, rfl, ?_⟩; replace E2 := zk E2 hb; replace E0 := zk E0 hb; replace E1 := zk E1 hb; replace E4 := zk E4 hb; replace HB := zb HB hb; (try clear hb)))
   go_meet
   case rel => exact ⟨_, (true), (by first | rfl | (simp; done) | (simp [*]; done)), H', ⟨by first | omega | exact Nat.le_refl _⟩, ⟨by exact zk0 E2⟩, ⟨by exact zk0 E0⟩, ⟨by exact zk0 E1⟩, ⟨by exact zk0 E4⟩, ⟨by exact zb0 HB⟩⟩
 case rest =>
  clear HC6
  try clear c1
  try clear c2
  try clear p2
  try clear q3
  try clear q4
  try clear c9
  try clear c12
  try clear Y6
  try clear E0c
  try clear E0G
  try clear E0H
  try clear E0I
  try clear E0M
  try clear E0N
  try clear E0O
  try clear E0P
  try clear E0U
  try clear E0V
  try clear E0W
  try clear E0J
  try clear E0K
  try clear E0L
  try clear E0Q
  try clear E0R
  try clear E0S
  try clear E0T
  try clear E0X
  try clear E0Y
  try clear E0Z
  obtain ⟨kq, x29_5, rfl, HA, HJ5, E2, E0, E1, E4, HB⟩ := hcut
  cases kq with
  | zero => exact absurd HA.out (by simp [imageeditorlaw15_WarpIgnores.j0])
  | succ kj5 =>
   have H := HA.out
   clear HA
   simp only [imageeditorlaw15_WarpIgnores.j0] at H
   by_cases c20 : x29_5 = true
   ·subst c20
    rw [if_pos rfl] at H
    replace H := Option.bind_eq_some_iff.mp H
    obtain ⟨t921, A210, H⟩ := H
    try dsimp only at H
    have A21 := Aside0.mk A210
    clear A210
    as_aux_lemma =>
     obtain rfl := Option.some.inj H
     (try clear E2)
     (try clear E0)
     (try clear E1)
     (try clear E4)
     go_wp2_with (first | ((with_reducible refine gate_callee (f := 16) rfl ?_); refine goesL_ (some 30) rfl rfl Try.func16 (by kernel_rfl) rfl #[] rfl (by (try simp only [List.map_toArray, List.map_cons, List.map_nil]); first | done | rfl | (simp only [List.length_drop, List.length_take]; rfl)) ?_; (with_reducible refine (imageeditorlaw15_awake.calls kj5  t921 _ A21.out).mono ?_); rintro e w22 ⟨rfl, hb⟩; refine ⟨_, rfl, ?_⟩; replace HB := zb HB hb; (try clear hb)))
     go_ret
     exact ⟨by first | rfl | (simp [errW_none, errW_some] <;> rfl) | (simp [*, errW_none, errW_some] <;> rfl), by exact zb0 HB⟩
   replace c20 := Bool.eq_false_iff.mpr c20
   subst c20
   rw [if_neg (show ¬ (false = true) by decide)] at H
   replace H := Option.bind_eq_some_iff.mp H
   obtain ⟨⟨t923, t924, t925, t926, t927⟩, A230, H⟩ := H
   try dsimp only at H
   have A23 := Aside0.mk A230
   clear A230
   by_cases c24 : t927 = 0
   rotate_left
   ·rw [if_neg c24] at H
    have E1a : (t927 == 0) = false := beq_eq_false_iff_ne.mpr c24
    have E1b : (t927 != 0) = true := bne_iff_ne.mpr c24
    replace H := Option.bind_eq_some_iff.mp H
    obtain ⟨t929, A2170, H⟩ := H
    try dsimp only at H
    have A217 := Aside0.mk A2170
    clear A2170
    as_aux_lemma =>
     obtain rfl := Option.some.inj H
     have E6O := L0.out
     have E6P := L1.out
     have E6Q := L2.out
     have E6R := L3.out
     have E6S := L4.out
     have E6T := L5.out
     obtain ⟨E6U, E6V, E6W, E6X, E6Y, E6Z⟩ := zq3 E2
     (try clear E2)
     (try clear E4)
     go_wp2_with (first | ((with_reducible refine gate_dst (N := 11) rfl ?_); refine box_event ?hg (N := 11) ?hd (cs := #[.int .i64 0, .int .i64 0, .int .i64 0, .int .i64 0]) (t := 34) ?hr ?_; (case hd => rfl); (case hg => rfl); (case hr => first | (go_simp; done) | (go_simp; rfl)); intro L6 hg w222 hbox hb; have E1T := zg HB hg; have J0 := zg HB hg; have Z5 := zn E0 hg; have L7 := zn' E0 hg; have Z6 := zn E1 hg; have L8 := zn' E1 hg; have n0_ := Aside0.mk (hbox); replace E0 := zk E0 hb; replace E1 := zk E1 hb; replace HB := zb HB hb; have E3 := n0_; clear n0_; clear hb hbox hg; have E7a := L7.out; have E7b := Z5.out; have E7c := L8.out; have E7d := Z6.out; obtain ⟨E7e, E7f, E7g, E7h, E7i, E7j, E7k, E7l⟩ := zq4 E3; have E7m := Q6.out; have E7n := Q7.out; obtain ⟨E7o, E7p, E7q, E7r, E7s, E7t, E7u, E7v⟩ := zq4 E0; obtain ⟨E7w, E7x, E7y, E7z, E7A, E7B, E7C, E7D⟩ := zq4 E1) | ((with_reducible refine gate_callee (f := 17) rfl ?_); refine goesL_ (some 41) rfl rfl Try.func17 (by kernel_rfl) rfl #[.agg #[.int .i64 a1_0, .int .i64 a1_1, .int .i64 a1_2, .slice A1_3 l1_3.length c1_3], .int .i64 a2, .agg #[.int .i64 a3_0, .int .i64 a3_1, .int .i64 a3_2, .int .i64 a3_3], .agg #[.int .i64 0, .int .i64 0, .int .i64 a0_0, .int .i64 a0_1]] rfl (by (try simp only [List.map_toArray, List.map_cons, List.map_nil]); first | done | rfl | (simp only [List.length_drop, List.length_take]; rfl)) ?_; (with_reducible refine (warp_Needs.calls kj5 a1_0 a1_1 a1_2 _ _ l1_3 a2 a3_0 a3_1 a3_2 a3_3 0 0 a0_0 a0_1 t923 t924 t925 t926 t927 _ ?side1 ?side2 A23.out).mono ?_); (case side1 => exact Kd.C_below Z3.out (by exact zbo HB J0)); (case side2 => exact Z4.out); rintro e w229 ⟨rfl, hb⟩; refine ⟨_, rfl, ?_⟩; have n0_ := Aside0.mk (blk_below (g := L6) (o := .cells #[.int .i64 0, .int .i64 0, .int .i64 a0_0, .int .i64 a0_1] 34 (0, 0)) (by exact zp E3 rfl) hb); have n1_ := Aside0.mk (below_step (by exact zbo HB J0) hb); replace E0 := zfk E0 Z5 hb; replace E1 := zfk E1 Z6 hb; clear E3; clear HB; have E3 := n0_; have HB := n1_; clear n0_ n1_; (try clear hb); (try clear E0); (try clear E1); (try clear E3)) | ((with_reducible refine gate_dst (N := 12) rfl ?_); refine box_event ?hg (N := 12) ?hd (cs := #[.int .i64 0, .int .i64 0, .int .i64 0, .int .i64 0]) (t := 34) ?hr ?_; (case hd => rfl); (case hg => rfl); (case hr => first | (go_simp; done) | (go_simp; rfl)); intro L9 hg w230 hbox hb; have E1U := zg HB hg; have Z7 := zg HB hg; have n0_ := Aside0.mk (hbox); replace HB := zb HB hb; have E5 := n0_; clear n0_; clear hb hbox hg; obtain ⟨E7E, E7F, E7G, E7H, E7I, E7J, E7K, E7L⟩ := zq4 E5) | ((with_reducible refine gate_callee (f := 16) rfl ?_); refine goesL_ (some 46) rfl rfl Try.func16 (by kernel_rfl) rfl #[] rfl (by (try simp only [List.map_toArray, List.map_cons, List.map_nil]); first | done | rfl | (simp only [List.length_drop, List.length_take]; rfl)) ?_; (with_reducible refine (imageeditorlaw15_awake.calls kj5  t929 _ A217.out).mono ?_); rintro e w232 ⟨rfl, hb⟩; refine ⟨_, rfl, ?_⟩; have n0_ := Aside0.mk (blk_below (g := L9) (o := .cells #[.int .i64 t923, .int .i64 t924, .int .i64 t925, .int .i64 t926] 34 (0, 0)) (by exact zp E5 rfl) hb); have n1_ := Aside0.mk (below_step (by exact zbo HB Z7) hb); clear E5; clear HB; have E5 := n0_; have HB := n1_; clear n0_ n1_; (try clear hb)))
     go_ret
     exact ⟨by first | rfl | (simp [errW_none, errW_some] <;> rfl) | (simp [*, errW_none, errW_some] <;> rfl), by exact zb0 HB⟩

   rw [if_pos c24] at H
   have E1a : (t927 == 0) = true := beq_iff_eq.mpr c24
   have E1b : (t927 != 0) = false := bne_eq_false_iff_eq.mpr c24
   clear c24
   replace H := Option.bind_eq_some_iff.mp H
   obtain ⟨⟨t930, t931, t932, t935⟩, A250, H⟩ := H
   try dsimp only at H
   have A25 := Aside0.mk A250
   clear A250
   replace H := Option.bind_eq_some_iff.mp H
   obtain ⟨⟨t937, t938, t939, t942⟩, A260, H⟩ := H
   try dsimp only at H
   have A26 := Aside0.mk A260
   clear A260
   replace H := Option.bind_eq_some_iff.mp H
   obtain ⟨⟨t944, t945, t946, t949⟩, A270, H⟩ := H
   try dsimp only at H
   have A27 := Aside0.mk A270
   clear A270
   have HC28 := Aside0.mk H
   clear H
   have E7M := L0.out
   have E7N := L1.out
   have E7O := L2.out
   have E7P := L3.out
   have E7Q := L4.out
   have E7R := L5.out
   obtain ⟨E1V, E1W, E1X, E1Y, E1Z, E2a⟩ := zq3 E2
   go_upto_region 10 with (first | ((with_reducible refine gate_dst (N := 11) rfl ?_); refine box_event ?hg (N := 11) ?hd (cs := #[.int .i64 0, .int .i64 0, .int .i64 0, .int .i64 0]) (t := 34) ?hr ?_; (case hd => rfl); (case hg => rfl); (case hr => first | (go_simp; done) | (go_simp; rfl)); intro L6 hg w33 hbox hb; have E1T := zg HB hg; have J0 := zg HB hg; have Q0 := zn E2 hg; have E0d := zn' E2 hg; have Z5 := zn E0 hg; have L7 := zn' E0 hg; have Z6 := zn E1 hg; have L8 := zn' E1 hg; have Q1 := zn E4 hg; have E0e := zn' E4 hg; have n0_ := Aside0.mk (hbox); replace E2 := zk E2 hb; replace E0 := zk E0 hb; replace E1 := zk E1 hb; replace E4 := zk E4 hb; replace HB := zb HB hb; have E3 := n0_; clear n0_; clear hb hbox hg; have E7S := E0d.out; have E7T := Q0.out; have E7U := L7.out; have E7V := Z5.out; have E7W := L8.out; have E7X := Z6.out; have E7Y := E0e.out; have E7Z := Q1.out; obtain ⟨E2b, E2c, E2d, E2e, E2f, E2g, E2h, E2i⟩ := zq4 E3; have E8a := Q6.out; have E8b := Q7.out; have E8c := Q8.out; have E8d := Q9.out; obtain ⟨E2j, E2k, E2l, E2m, E2n, E2o, E2p, E2q⟩ := zq4 E0; have E8e := E0a.out; have E8f := E0b.out; obtain ⟨E2r, E2s, E2t, E2u, E2v, E2w, E2x, E2y⟩ := zq4 E1) | ((with_reducible refine gate_callee (f := 17) rfl ?_); refine goesL_ (some 41) rfl rfl Try.func17 (by kernel_rfl) rfl #[.agg #[.int .i64 a1_0, .int .i64 a1_1, .int .i64 a1_2, .slice A1_3 l1_3.length c1_3], .int .i64 a2, .agg #[.int .i64 a3_0, .int .i64 a3_1, .int .i64 a3_2, .int .i64 a3_3], .agg #[.int .i64 0, .int .i64 0, .int .i64 a0_0, .int .i64 a0_1]] rfl (by (try simp only [List.map_toArray, List.map_cons, List.map_nil]); first | done | rfl | (simp only [List.length_drop, List.length_take]; rfl)) ?_; (with_reducible refine (warp_Needs.calls kj5 a1_0 a1_1 a1_2 _ _ l1_3 a2 a3_0 a3_1 a3_2 a3_3 0 0 a0_0 a0_1 t923 t924 t925 t926 t927 _ ?side1 ?side2 A23.out).mono ?_); (case side1 => exact Kd.C_below Z3.out (by exact zbo HB J0)); (case side2 => exact Z4.out); rintro e w44 ⟨rfl, hb⟩; refine ⟨_, rfl, ?_⟩; have n0_ := Aside0.mk (blk_below (g := L6) (o := .cells #[.int .i64 0, .int .i64 0, .int .i64 a0_0, .int .i64 a0_1] 34 (0, 0)) (by exact zp E3 rfl) hb); have n1_ := Aside0.mk (below_step (by exact zbo HB J0) hb); replace E2 := zfk E2 Q0 hb; replace E0 := zfk E0 Z5 hb; replace E1 := zfk E1 Z6 hb; replace E4 := zfk E4 Q1 hb; clear E3; clear HB; have E3 := n0_; have HB := n1_; clear n0_ n1_; (try clear hb); (try clear hb2); (try clear hk); (try clear hi)) | ((with_reducible refine gate_dst (N := 12) rfl ?_); refine box_event ?hg (N := 12) ?hd (cs := #[.int .i64 0, .int .i64 0, .int .i64 0, .int .i64 0]) (t := 34) ?hr ?_; (case hd => rfl); (case hg => rfl); (case hr => first | (go_simp; done) | (go_simp; rfl)); intro L9 hg w45 hbox hb; have E1U := zg HB hg; have Z7 := zg HB hg; have Q2 := zn E2 hg; have E0f := zn' E2 hg; have E0g := zn E0 hg; have E1c := zn' E0 hg; have E0h := zn E1 hg; have E1d := zn' E1 hg; have J1 := zn E4 hg; have E0i := zn' E4 hg; have E0j := zn E3 hg; have E1e := zn' E3 hg; have n0_ := Aside0.mk (hbox); replace E2 := zk E2 hb; replace E0 := zk E0 hb; replace E1 := zk E1 hb; replace E4 := zk E4 hb; replace E3 := zk E3 hb; replace HB := zb HB hb; have E5 := n0_; clear n0_; clear hb hbox hg; have E8g := E0f.out; have E8h := Q2.out; have E8i := E1c.out; have E8j := E0g.out; have E8k := E1d.out; have E8l := E0h.out; have E8m := E0i.out; have E8n := J1.out; have E8o := E1e.out; have E8p := E0j.out; obtain ⟨E2z, E2A, E2B, E2C, E2D, E2E, E2F, E2G⟩ := zq4 E5; obtain ⟨E2H, E2I, E2J, E2K, E2L, E2M⟩ := zq3 E2; obtain ⟨E2N, E2O, E2P, E2Q, E2R, E2S, E2T, E2U⟩ := zq4 E3; obtain ⟨E2V, E2W, E2X, E2Y, E2Z, E3a, E3b, E3c⟩ := zq4 E0; obtain ⟨E3d, E3e, E3f, E3g, E3h, E3i, E3j, E3k⟩ := zq4 E1) | ((with_reducible refine gate_callee (f := 19) rfl ?_); refine goesL_ (some 54) rfl rfl Try.func19 (by kernel_rfl) rfl #[.agg #[.int .i64 a0_0, .int .i64 a0_1, .slice A0_2 l0_2.length c0_2], .agg #[.int .i64 0, .int .i64 0], .agg #[.int .i64 0, .int .i64 0, .int .i64 a0_0, .int .i64 a0_1], .agg #[.int .i64 a1_0, .int .i64 a1_1, .int .i64 a1_2, .slice A1_3 l1_3.length c1_3], .int .i64 a2, .agg #[.int .i64 a3_0, .int .i64 a3_1, .int .i64 a3_2, .int .i64 a3_3]] rfl (by (try simp only [List.map_toArray, List.map_cons, List.map_nil]); first | done | rfl | (simp only [List.length_drop, List.length_take]; rfl)) ?_; (with_reducible refine (warp_Draw.calls kj5 a0_0 a0_1 _ _ l0_2 0 0 0 0 a0_0 a0_1 a1_0 a1_1 a1_2 _ _ l1_3 a2 a3_0 a3_1 a3_2 a3_3 t930 t931 t932 t935 _ ?side1 ?side2 ?side3 ?side4 A25.out).mono ?_); (case side1 => exact Kd.C_below J8.out (by exact zbo HB Z7)); (case side2 => exact J9.out); (case side3 => exact Kd.C_below Z3.out (by exact zbo HB Z7)); (case side4 => exact Z4.out); rintro e w56 ⟨v933, rfl, ho0, hb⟩; refine ⟨_, rfl, ?_⟩; have n0_ := Aside0.mk (Kd.R_lower (Kd.R_newB ho0 (zf E4 J1)) (below_size (by exact zbo HB Z7))); have n1_ := Aside0.mk (blk_below (g := L9) (o := .cells #[.int .i64 t923, .int .i64 t924, .int .i64 t925, .int .i64 t926] 34 (0, 0)) (by exact zp E5 rfl) hb); have n2_ := Aside0.mk (below_step (by exact zbo HB Z7) hb); replace E2 := zfk E2 Q2 hb; replace E0 := zfk E0 E0g hb; replace E1 := zfk E1 E0h hb; replace E4 := zfk E4 J1 hb; replace E3 := zfk E3 E0j hb; clear E5; clear HB; have HO934 := n0_; have E5 := n1_; have HB := n2_; clear n0_ n1_ n2_; (try clear hb); (try clear hb2); (try clear hk); (try clear hi); (try clear ho0)) | ((with_reducible refine gate_dst (N := 14) rfl ?_); refine box_event ?hg (N := 14) ?hd (cs := #[.int .i64 0, .int .i64 0, .slice none 0 0]) (t := 40) ?hr ?_; (case hd => rfl); (case hg => rfl); (case hr => first | (go_simp; done) | (go_simp; rfl)); intro E1f hg w57 hbox hb; have E8q := zg HB hg; have E0k := zg HB hg; have Q3 := zn E2 hg; have E0l := zn' E2 hg; have E0m := zn E0 hg; have E1g := zn' E0 hg; have E0n := zn E1 hg; have E1h := zn' E1 hg; have J2 := zn E4 hg; have E0o := zn' E4 hg; have E0p := zn E3 hg; have E1i := zn' E3 hg; have E0q := zn E5 hg; have E1j := zn' E5 hg; have n0_ := Aside0.mk (hbox); replace HO934 := zr HO934 hb; replace E2 := zk E2 hb; replace E0 := zk E0 hb; replace E1 := zk E1 hb; replace E4 := zk E4 hb; replace E3 := zk E3 hb; replace E5 := zk E5 hb; replace HB := zb HB hb; have E6 := n0_; clear n0_; clear hb hbox hg; have E8r := E0l.out; have E8s := Q3.out; have E8t := E1g.out; have E8u := E0m.out; have E8v := E1h.out; have E8w := E0n.out; have E8x := E0o.out; have E8y := J2.out; have E8z := E1i.out; have E8A := E0p.out; have E8B := E1j.out; have E8C := E0q.out; obtain ⟨E3l, E3m, E3n, E3o, E3p, E3q⟩ := zq3 E6; obtain ⟨Ao65, co65, eo65⟩ := Kd.R_slice HO934.out; subst eo65; obtain ⟨E3r, E3s, E3t, E3u, E3v, E3w⟩ := zq3 E2; obtain ⟨E3x, E3y, E3z, E3A, E3B, E3C, E3D, E3E⟩ := zq4 E5) | ((with_reducible refine gate_callee (f := 24) rfl ?_); refine goesL_ (some 60) rfl rfl Try.func24 (by kernel_rfl) rfl #[.agg #[.int .i64 a0_0, .int .i64 a0_1, .slice A0_2 l0_2.length c0_2], .agg #[.int .i64 t923, .int .i64 t924, .int .i64 t925, .int .i64 t926]] rfl (by (try simp only [List.map_toArray, List.map_cons, List.map_nil]); first | done | rfl | (simp only [List.length_drop, List.length_take]; rfl)) ?_; (with_reducible refine (raster_Crop.calls kj5 a0_0 a0_1 _ _ l0_2 t923 t924 t925 t926 t937 t938 t939 t942 _ ?side1 ?side2 A26.out).mono ?_); (case side1 => exact Kd.C_below J8.out (by exact zbo HB E0k)); (case side2 => exact J9.out); rintro e w68 ⟨v940, rfl, ho0, hb⟩; refine ⟨_, rfl, ?_⟩; have n0_ := Aside0.mk (Kd.R_below (by exact zro HO934 E6 (by decide)) hb); have n1_ := Aside0.mk (Kd.R_lower (Kd.R_newB ho0 (zf E4 J2)) (below_size (by exact zbo HB E0k))); have n2_ := Aside0.mk (blk_below (g := E1f) (o := .cells #[.int .i64 t930, .int .i64 t931, .slice Ao65 t932.length co65] 40 (0, 0)) (by exact zp E6 rfl) hb); have n3_ := Aside0.mk (below_step (by exact zbo HB E0k) hb); replace E2 := zfk E2 Q3 hb; replace E0 := zfk E0 E0m hb; replace E1 := zfk E1 E0n hb; replace E4 := zfk E4 J2 hb; replace E3 := zfk E3 E0p hb; replace E5 := zfk E5 E0q hb; clear HO934; clear E6; clear HB; have HO934 := n0_; have HO941 := n1_; have E6 := n2_; have HB := n3_; clear n0_ n1_ n2_ n3_; (try clear hb); (try clear hb2); (try clear hk); (try clear hi); (try clear ho0)) | ((with_reducible refine gate_dst (N := 15) rfl ?_); refine box_event ?hg (N := 15) ?hd (cs := #[.int .i64 0, .int .i64 0, .slice none 0 0]) (t := 40) ?hr ?_; (case hd => rfl); (case hg => rfl); (case hr => first | (go_simp; done) | (go_simp; rfl)); intro E1k hg w69 hbox hb; have E8D := zg HB hg; have E0r := zg HB hg; have Q4 := zn E2 hg; have E0s := zn' E2 hg; have E0t := zn E0 hg; have E1l := zn' E0 hg; have E0u := zn E1 hg; have E1m := zn' E1 hg; have J3 := zn E4 hg; have E0v := zn' E4 hg; have E0w := zn E3 hg; have E1n := zn' E3 hg; have E0x := zn E5 hg; have E1o := zn' E5 hg; have E0y := zn E6 hg; have E1p := zn' E6 hg; have n0_ := Aside0.mk (hbox); replace HO934 := zr HO934 hb; replace HO941 := zr HO941 hb; replace E2 := zk E2 hb; replace E0 := zk E0 hb; replace E1 := zk E1 hb; replace E4 := zk E4 hb; replace E3 := zk E3 hb; replace E5 := zk E5 hb; replace E6 := zk E6 hb; replace HB := zb HB hb; have E8 := n0_; clear n0_; clear hb hbox hg; have E8E := E0s.out; have E8F := Q4.out; have E8G := E1l.out; have E8H := E0t.out; have E8I := E1m.out; have E8J := E0u.out; have E8K := E0v.out; have E8L := J3.out; have E8M := E1n.out; have E8N := E0w.out; have E8O := E1o.out; have E8P := E0x.out; have E8Q := E1p.out; have E8R := E0y.out; obtain ⟨E3F, E3G, E3H, E3I, E3J, E3K⟩ := zq3 E8; obtain ⟨Ao78, co78, eo78⟩ := Kd.R_slice HO941.out; subst eo78; obtain ⟨E3L, E3M, E3N, E3O, E3P, E3Q, E3R, E3S⟩ := zq4 E5; obtain ⟨E3T, E3U, E3V, E3W, E3X, E3Y, E3Z, E4a⟩ := zq4 E3; obtain ⟨E4b, E4c, E4d, E4e, E4f, E4g, E4h, E4i⟩ := zq4 E0; obtain ⟨E4j, E4k, E4l, E4m, E4n, E4o, E4p, E4q⟩ := zq4 E1) | ((with_reducible refine gate_callee (f := 19) rfl ?_); refine goesL_ (some 74) rfl rfl Try.func19 (by kernel_rfl) rfl #[.agg #[.int .i64 t937, .int .i64 t938, .slice Ao78 t939.length co78], .agg #[.int .i64 t923, .int .i64 t924], .agg #[.int .i64 0, .int .i64 0, .int .i64 a0_0, .int .i64 a0_1], .agg #[.int .i64 a1_0, .int .i64 a1_1, .int .i64 a1_2, .slice A1_3 l1_3.length c1_3], .int .i64 a2, .agg #[.int .i64 a3_0, .int .i64 a3_1, .int .i64 a3_2, .int .i64 a3_3]] rfl (by (try simp only [List.map_toArray, List.map_cons, List.map_nil]); first | done | rfl | (simp only [List.length_drop, List.length_take]; rfl)) ?_; (with_reducible refine (warp_Draw.calls kj5 t937 t938 _ _ t939 t923 t924 0 0 a0_0 a0_1 a1_0 a1_1 a1_2 _ _ l1_3 a2 a3_0 a3_1 a3_2 a3_3 t944 t945 t946 t949 _ ?side1 ?side2 ?side3 ?side4 A27.out).mono ?_); (case side1 => refine (Kd.R_reads' (e := 48) (base := w.heap.size) (ok := fun k_ => (True ∧ k_ ≠ V2)) (n := t939.length) (c := co78) ?_).2.2; exact (by exact zro HO941 E8 (by decide))); (case side2 => exact (Kd.R_reads' HO941.out).2.1); (case side3 => exact Kd.C_below Z3.out (by exact zbo HB E0r)); (case side4 => exact Z4.out); rintro e w83 ⟨v947, rfl, ho0, hb⟩; refine ⟨_, rfl, ?_⟩; have n0_ := Aside0.mk (Kd.R_below (by exact zro HO934 E8 (by decide)) hb); have n1_ := Aside0.mk (Kd.R_below (by exact zro HO941 E8 (by decide)) hb); have n2_ := Aside0.mk (Kd.R_lower (Kd.R_newB ho0 (zf E4 J3)) (below_size (by exact zbo HB E0r))); have n3_ := Aside0.mk (blk_below (g := E1k) (o := .cells #[.int .i64 t937, .int .i64 t938, .slice Ao78 t939.length co78] 40 (0, 0)) (by exact zp E8 rfl) hb); have n4_ := Aside0.mk (below_step (by exact zbo HB E0r) hb); replace E2 := zfk E2 Q4 hb; replace E0 := zfk E0 E0t hb; replace E1 := zfk E1 E0u hb; replace E4 := zfk E4 J3 hb; replace E3 := zfk E3 E0w hb; replace E5 := zfk E5 E0x hb; replace E6 := zfk E6 E0y hb; clear HO934; clear HO941; clear E8; clear HB; have HO934 := n0_; have HO941 := n1_; have HO948 := n2_; have E8 := n3_; have HB := n4_; clear n0_ n1_ n2_ n3_ n4_; (try clear hb); (try clear hb2); (try clear hk); (try clear hi); (try clear ho0)) | ((with_reducible refine gate_dst (N := 17) rfl ?_); refine box_event ?hg (N := 17) ?hd (cs := #[.int .i64 0, .int .i64 0, .slice none 0 0]) (t := 40) ?hr ?_; (case hd => rfl); (case hg => rfl); (case hr => first | (go_simp; done) | (go_simp; rfl)); intro G0 hg w84 hbox hb; have E8S := zg HB hg; have Z8 := zg HB hg; have V8 := zn E2 hg; have E0z := zn' E2 hg; have Y7 := zn E0 hg; have E4r := zn' E0 hg; have Y8 := zn E1 hg; have E4s := zn' E1 hg; have V9 := zn E4 hg; have E0A := zn' E4 hg; have Y9 := zn E3 hg; have E4t := zn' E3 hg; have Z0 := zn E5 hg; have E4u := zn' E5 hg; have Z1 := zn E6 hg; have E4v := zn' E6 hg; have Z2 := zn E8 hg; have E4w := zn' E8 hg; have n0_ := Aside0.mk (hbox); replace HO934 := zr HO934 hb; replace HO941 := zr HO941 hb; replace HO948 := zr HO948 hb; replace E2 := zk E2 hb; replace E0 := zk E0 hb; replace E1 := zk E1 hb; replace E4 := zk E4 hb; replace E3 := zk E3 hb; replace E5 := zk E5 hb; replace E6 := zk E6 hb; replace E8 := zk E8 hb; replace HB := zb HB hb; have E7 := n0_; clear n0_; clear hb hbox hg; have E8T := E0z.out; have E8U := V8.out; have E8V := E4r.out; have E8W := Y7.out; have E8X := E4s.out; have E8Y := Y8.out; have E8Z := E0A.out; have E9a := V9.out; have E9b := E4t.out; have E9c := Y9.out; have E9d := E4u.out; have E9e := Z0.out; have E9f := E4v.out; have E9g := Z1.out; have E9h := E4w.out; have E9i := Z2.out; obtain ⟨E4x, E4y, E4z, E4A, E4B, E4C⟩ := zq3 E7; obtain ⟨Ao94, co94, eo94⟩ := Kd.R_slice HO948.out; subst eo94))
   (try simp only [Act.put, sA, sB, sC])
   go_cut [104] (fun v104 wc => ∃ (kq : Nat) (x104_27 : Bool), v104 = .bool x104_27 ∧ Aside0 (imageeditorlaw15_WarpIgnores.j1 kq a2 x104_27 a0_0 a0_1 l0_2 a1_0 a1_1 a1_2 l1_3 a3_0 a3_1 a3_2 a3_3 a4_0 a4_1 a4_2 a4_3 0 0 a0_0 a0_1 t923 t924 t925 t926 t930 t931 t932 t937 t938 t939 = some r) ∧ Aside0 (kq ≤ kj5) ∧ Aside0 (Kd.R k48 48 wc w.heap.size (fun k_ => k_ ≠ V2) (.slice Ao65 t932.length co65) t932) ∧ Aside0 (Kd.R k48 48 wc w.heap.size (fun k_ => k_ ≠ V2) (.slice Ao78 t939.length co78) t939) ∧ Aside0 (Kd.R k48 48 wc w.heap.size (fun k_ => k_ ≠ V2) (.slice Ao94 t946.length co94) t946) ∧ Aside0 (wc.heap[E0D]? = some (.cells #[.int .i64 a0_0, .int .i64 a0_1, (.slice A0_2 l0_2.length c0_2)] 40 (0, 0))) ∧ Aside0 (wc.heap[E0E]? = some (.cells #[.int .i64 a1_0, .int .i64 a1_1, .int .i64 a1_2, (.slice A1_3 l1_3.length c1_3)] 24 (0, 0))) ∧ Aside0 (wc.heap[E0F]? = some (.cells #[.int .i64 a3_0, .int .i64 a3_1, .int .i64 a3_2, .int .i64 a3_3] 34 (0, 0))) ∧ Aside0 (wc.heap[V2]? = some (.cells #[.int .i64 a4_0, .int .i64 a4_1, .int .i64 a4_2, .int .i64 a4_3] 48 (0, 0))) ∧ Aside0 (wc.heap[L6]? = some (.cells #[.int .i64 0, .int .i64 0, .int .i64 a0_0, .int .i64 a0_1] 34 (0, 0))) ∧ Aside0 (wc.heap[L9]? = some (.cells #[.int .i64 t923, .int .i64 t924, .int .i64 t925, .int .i64 t926] 34 (0, 0))) ∧ Aside0 (wc.heap[E1f]? = some (.cells #[.int .i64 t930, .int .i64 t931, (.slice Ao65 t932.length co65)] 40 (0, 0))) ∧ Aside0 (wc.heap[E1k]? = some (.cells #[.int .i64 t937, .int .i64 t938, (.slice Ao78 t939.length co78)] 40 (0, 0))) ∧ Aside0 (wc.heap[G0]? = some (.cells #[.int .i64 t944, .int .i64 t945, (.slice Ao94 t946.length co94)] 40 (0, 0))) ∧ Aside0 (Below w.heap.size w wc))
   case first =>
    have H := HC28.out
    clear HC28
    by_cases c95 : t935 = 0
    rotate_left
    ·rw [if_neg c95] at H
     have Z9 : (t935 == 0) = false := beq_eq_false_iff_ne.mpr c95
     have E1q : (t935 != 0) = true := bne_iff_ne.mpr c95
     (first | rw [Z9] | (simp only [i64_w, i32_w]; rw [Z9]) | skip)
     as_aux_lemma =>
      have H' := Aside0.mk H
      clear H
      go_wp2
      go_meet
      case rel => exact ⟨_, (true), (by first | rfl | (simp; done) | (simp [*]; done)), H', ⟨by have := HJ5.out; first | omega | exact Nat.le_refl _⟩, ⟨by (with_reducible repeat (first | apply Kd.R_alloc | apply Kd.R_drewN | apply Kd.R_drew)); exact Kd.R_mono (Kd.R_far (p := ⟨G0, 2, none⟩) (Kd.R_far (p := ⟨G0, 1, none⟩) (Kd.R_far (p := ⟨G0, 0, none⟩) (Kd.R_types HO934.out E7.out (by decide)) (fun _ hk => hk.2) (.int .i64 t944)) (fun _ hk => hk.2) (.int .i64 t945)) (fun _ hk => hk.2) (.slice Ao94 t946.length co94)) (fun _ hk => hk.1.2)⟩, ⟨by (with_reducible repeat (first | apply Kd.R_alloc | apply Kd.R_drewN | apply Kd.R_drew)); exact Kd.R_mono (Kd.R_far (p := ⟨G0, 2, none⟩) (Kd.R_far (p := ⟨G0, 1, none⟩) (Kd.R_far (p := ⟨G0, 0, none⟩) (Kd.R_types HO941.out E7.out (by decide)) (fun _ hk => hk.2) (.int .i64 t944)) (fun _ hk => hk.2) (.int .i64 t945)) (fun _ hk => hk.2) (.slice Ao94 t946.length co94)) (fun _ hk => hk.1.2)⟩, ⟨by (with_reducible repeat (first | apply Kd.R_alloc | apply Kd.R_drewN | apply Kd.R_drew)); exact Kd.R_mono (Kd.R_far (p := ⟨G0, 2, none⟩) (Kd.R_far (p := ⟨G0, 1, none⟩) (Kd.R_far (p := ⟨G0, 0, none⟩) (Kd.R_types HO948.out E7.out (by decide)) (fun _ hk => hk.2) (.int .i64 t944)) (fun _ hk => hk.2) (.int .i64 t945)) (fun _ hk => hk.2) (.slice Ao94 t946.length co94)) (fun _ hk => hk.1.2)⟩, ⟨by exact zf E2 V8⟩, ⟨by exact zf E0 Y7⟩, ⟨by exact zf E1 Y8⟩, ⟨by exact zf E4 V9⟩, ⟨by exact zf E3 Y9⟩, ⟨by exact zf E5 Z0⟩, ⟨by exact zf E6 Z1⟩, ⟨by exact zf E8 Z2⟩, ⟨by exact zp E7 rfl⟩, ⟨by exact zbo HB Z8⟩⟩
    rw [if_pos c95] at H
    have Z9 : (t935 == 0) = true := beq_iff_eq.mpr c95
    have E1q : (t935 != 0) = false := bne_eq_false_iff_eq.mpr c95
    clear c95
    (first | rw [Z9] | (simp only [i64_w, i32_w]; rw [Z9]) | skip)
    by_cases c96 : t942 = 0
    rotate_left
    ·rw [if_neg c96] at H
     have E1r : (t942 == 0) = false := beq_eq_false_iff_ne.mpr c96
     have E1s : (t942 != 0) = true := bne_iff_ne.mpr c96
     as_aux_lemma =>
      have H' := Aside0.mk H
      clear H
      go_wp2
      go_meet
      case rel => exact ⟨_, (true), (by first | rfl | (simp; done) | (simp [*]; done)), H', ⟨by have := HJ5.out; first | omega | exact Nat.le_refl _⟩, ⟨by (with_reducible repeat (first | apply Kd.R_alloc | apply Kd.R_drewN | apply Kd.R_drew)); exact Kd.R_mono (Kd.R_far (p := ⟨G0, 2, none⟩) (Kd.R_far (p := ⟨G0, 1, none⟩) (Kd.R_far (p := ⟨G0, 0, none⟩) (Kd.R_types HO934.out E7.out (by decide)) (fun _ hk => hk.2) (.int .i64 t944)) (fun _ hk => hk.2) (.int .i64 t945)) (fun _ hk => hk.2) (.slice Ao94 t946.length co94)) (fun _ hk => hk.1.2)⟩, ⟨by (with_reducible repeat (first | apply Kd.R_alloc | apply Kd.R_drewN | apply Kd.R_drew)); exact Kd.R_mono (Kd.R_far (p := ⟨G0, 2, none⟩) (Kd.R_far (p := ⟨G0, 1, none⟩) (Kd.R_far (p := ⟨G0, 0, none⟩) (Kd.R_types HO941.out E7.out (by decide)) (fun _ hk => hk.2) (.int .i64 t944)) (fun _ hk => hk.2) (.int .i64 t945)) (fun _ hk => hk.2) (.slice Ao94 t946.length co94)) (fun _ hk => hk.1.2)⟩, ⟨by (with_reducible repeat (first | apply Kd.R_alloc | apply Kd.R_drewN | apply Kd.R_drew)); exact Kd.R_mono (Kd.R_far (p := ⟨G0, 2, none⟩) (Kd.R_far (p := ⟨G0, 1, none⟩) (Kd.R_far (p := ⟨G0, 0, none⟩) (Kd.R_types HO948.out E7.out (by decide)) (fun _ hk => hk.2) (.int .i64 t944)) (fun _ hk => hk.2) (.int .i64 t945)) (fun _ hk => hk.2) (.slice Ao94 t946.length co94)) (fun _ hk => hk.1.2)⟩, ⟨by exact zf E2 V8⟩, ⟨by exact zf E0 Y7⟩, ⟨by exact zf E1 Y8⟩, ⟨by exact zf E4 V9⟩, ⟨by exact zf E3 Y9⟩, ⟨by exact zf E5 Z0⟩, ⟨by exact zf E6 Z1⟩, ⟨by exact zf E8 Z2⟩, ⟨by exact zp E7 rfl⟩, ⟨by exact zbo HB Z8⟩⟩
    rw [if_pos c96] at H
    have E1r : (t942 == 0) = true := beq_iff_eq.mpr c96
    have E1s : (t942 != 0) = false := bne_eq_false_iff_eq.mpr c96
    clear c96
    by_cases c97 : t949 = 0
    rotate_left
    ·rw [if_neg c97] at H
     have E1t : (t949 == 0) = false := beq_eq_false_iff_ne.mpr c97
     have E1u : (t949 != 0) = true := bne_iff_ne.mpr c97
     as_aux_lemma =>
      have H' := Aside0.mk H
      clear H
      go_wp2
      go_meet
      case rel => exact ⟨_, (true), (by first | rfl | (simp; done) | (simp [*]; done)), H', ⟨by have := HJ5.out; first | omega | exact Nat.le_refl _⟩, ⟨by (with_reducible repeat (first | apply Kd.R_alloc | apply Kd.R_drewN | apply Kd.R_drew)); exact Kd.R_mono (Kd.R_far (p := ⟨G0, 2, none⟩) (Kd.R_far (p := ⟨G0, 1, none⟩) (Kd.R_far (p := ⟨G0, 0, none⟩) (Kd.R_types HO934.out E7.out (by decide)) (fun _ hk => hk.2) (.int .i64 t944)) (fun _ hk => hk.2) (.int .i64 t945)) (fun _ hk => hk.2) (.slice Ao94 t946.length co94)) (fun _ hk => hk.1.2)⟩, ⟨by (with_reducible repeat (first | apply Kd.R_alloc | apply Kd.R_drewN | apply Kd.R_drew)); exact Kd.R_mono (Kd.R_far (p := ⟨G0, 2, none⟩) (Kd.R_far (p := ⟨G0, 1, none⟩) (Kd.R_far (p := ⟨G0, 0, none⟩) (Kd.R_types HO941.out E7.out (by decide)) (fun _ hk => hk.2) (.int .i64 t944)) (fun _ hk => hk.2) (.int .i64 t945)) (fun _ hk => hk.2) (.slice Ao94 t946.length co94)) (fun _ hk => hk.1.2)⟩, ⟨by (with_reducible repeat (first | apply Kd.R_alloc | apply Kd.R_drewN | apply Kd.R_drew)); exact Kd.R_mono (Kd.R_far (p := ⟨G0, 2, none⟩) (Kd.R_far (p := ⟨G0, 1, none⟩) (Kd.R_far (p := ⟨G0, 0, none⟩) (Kd.R_types HO948.out E7.out (by decide)) (fun _ hk => hk.2) (.int .i64 t944)) (fun _ hk => hk.2) (.int .i64 t945)) (fun _ hk => hk.2) (.slice Ao94 t946.length co94)) (fun _ hk => hk.1.2)⟩, ⟨by exact zf E2 V8⟩, ⟨by exact zf E0 Y7⟩, ⟨by exact zf E1 Y8⟩, ⟨by exact zf E4 V9⟩, ⟨by exact zf E3 Y9⟩, ⟨by exact zf E5 Z0⟩, ⟨by exact zf E6 Z1⟩, ⟨by exact zf E8 Z2⟩, ⟨by exact zp E7 rfl⟩, ⟨by exact zbo HB Z8⟩⟩
    rw [if_pos c97] at H
    have E1t : (t949 == 0) = true := beq_iff_eq.mpr c97
    have E1u : (t949 != 0) = false := bne_eq_false_iff_eq.mpr c97
    clear c97
    replace H := Option.bind_eq_some_iff.mp H
    obtain ⟨t951, A980, H⟩ := H
    try dsimp only at H
    have A98 := Aside0.mk A980
    clear A980
    by_cases c99 : t951 = true
    rotate_left
    ·replace c99 := Bool.eq_false_iff.mpr c99
     subst c99
     rw [if_neg (show ¬ (false = true) by decide)] at H
     as_aux_lemma =>
      have H' := Aside0.mk H
      clear H
      obtain ⟨E4D, E4E, E4F, E4G, E4H, E4I⟩ := zq3 E6
      obtain ⟨E4J, E4K, E4L, E4M, E4N, E4O⟩ := zq3 E7
      go_wp2_with (first | (go_at_call 21; (with_reducible refine (imageeditorlaw15_same.calls kj5 t930 t931 _ _ t932 t944 t945 _ _ t946 false _ ?side1 ?side2 ?side3 ?side4 A98.out).mono ?_); (case side1 => refine (Kd.R_reads' (e := 48) (base := w.heap.size) (ok := fun k_ => (True ∧ k_ ≠ V2)) (n := t932.length) (c := co65) ?_).2.2; exact (by exact zro HO934 E7 (by decide))); (case side2 => exact (Kd.R_reads' HO934.out).2.1); (case side3 => refine (Kd.R_reads' (e := 48) (base := w.heap.size) (ok := fun k_ => (True ∧ k_ ≠ V2)) (n := t946.length) (c := co94) ?_).2.2; exact (by exact zro HO948 E7 (by decide))); (case side4 => exact (Kd.R_reads' HO948.out).2.1); rintro e w120 ⟨rfl, hb⟩; have n0_ := Aside0.mk (Kd.R_below (by exact zro HO934 E7 (by decide)) hb); have n1_ := Aside0.mk (Kd.R_below (by exact zro HO941 E7 (by decide)) hb); have n2_ := Aside0.mk (Kd.R_below (by exact zro HO948 E7 (by decide)) hb); have n3_ := Aside0.mk (blk_below (g := G0) (o := .cells #[.int .i64 t944, .int .i64 t945, .slice Ao94 t946.length co94] 40 (0, 0)) (by exact zp E7 rfl) hb); have n4_ := Aside0.mk (below_step (by exact zbo HB Z8) hb); replace E2 := zfk E2 V8 hb; replace E0 := zfk E0 Y7 hb; replace E1 := zfk E1 Y8 hb; replace E4 := zfk E4 V9 hb; replace E3 := zfk E3 Y9 hb; replace E5 := zfk E5 Z0 hb; replace E6 := zfk E6 Z1 hb; replace E8 := zfk E8 Z2 hb; clear HO934; clear HO941; clear HO948; clear E7; clear HB; have HO934 := n0_; have HO941 := n1_; have HO948 := n2_; have E7 := n3_; have HB := n4_; clear n0_ n1_ n2_ n3_ n4_; (try clear hb)))
      go_meet
      case rel => exact ⟨_, (true), (by first | rfl | (simp; done) | (simp [*]; done)), H', ⟨by have := HJ5.out; first | omega | exact Nat.le_refl _⟩, ⟨by (with_reducible repeat (first | apply Kd.R_alloc | apply Kd.R_drewN | apply Kd.R_drew)); exact Kd.R_mono HO934.out (fun _ hk => hk.2)⟩, ⟨by (with_reducible repeat (first | apply Kd.R_alloc | apply Kd.R_drewN | apply Kd.R_drew)); exact Kd.R_mono HO941.out (fun _ hk => hk.2)⟩, ⟨by (with_reducible repeat (first | apply Kd.R_alloc | apply Kd.R_drewN | apply Kd.R_drew)); exact Kd.R_mono HO948.out (fun _ hk => hk.2)⟩, ⟨by exact zk0 E2⟩, ⟨by exact zk0 E0⟩, ⟨by exact zk0 E1⟩, ⟨by exact zk0 E4⟩, ⟨by exact zk0 E3⟩, ⟨by exact zk0 E5⟩, ⟨by exact zk0 E6⟩, ⟨by exact zk0 E8⟩, ⟨by exact zk0 E7⟩, ⟨by exact zb0 HB⟩⟩
    subst c99
    rw [if_pos rfl] at H
    replace H := Option.bind_eq_some_iff.mp H
    obtain ⟨t952, A1000, H⟩ := H
    try dsimp only at H
    have A100 := Aside0.mk A1000
    clear A1000
    by_cases c101 : t952 = true
    ·subst c101
     rw [if_pos rfl] at H
     replace H := Option.bind_eq_some_iff.mp H
     obtain ⟨t953, A1020, H⟩ := H
     try dsimp only at H
     have A102 := Aside0.mk A1020
     clear A1020
     as_aux_lemma =>
      have H' := Aside0.mk H
      clear H
      obtain ⟨E4P, E4Q, E4R, E4S, E4T, E4U⟩ := zq3 E6
      obtain ⟨E4V, E4W, E4X, E4Y, E4Z, E5a⟩ := zq3 E7
      go_wp2_with (first | (go_at_call 21; (with_reducible refine (imageeditorlaw15_same.calls kj5 t930 t931 _ _ t932 t944 t945 _ _ t946 true _ ?side1 ?side2 ?side3 ?side4 A98.out).mono ?_); (case side1 => refine (Kd.R_reads' (e := 48) (base := w.heap.size) (ok := fun k_ => (True ∧ k_ ≠ V2)) (n := t932.length) (c := co65) ?_).2.2; exact (by exact zro HO934 E7 (by decide))); (case side2 => exact (Kd.R_reads' HO934.out).2.1); (case side3 => refine (Kd.R_reads' (e := 48) (base := w.heap.size) (ok := fun k_ => (True ∧ k_ ≠ V2)) (n := t946.length) (c := co94) ?_).2.2; exact (by exact zro HO948 E7 (by decide))); (case side4 => exact (Kd.R_reads' HO948.out).2.1); rintro e w105 ⟨rfl, hb⟩; have n0_ := Aside0.mk (Kd.R_below (by exact zro HO934 E7 (by decide)) hb); have n1_ := Aside0.mk (Kd.R_below (by exact zro HO941 E7 (by decide)) hb); have n2_ := Aside0.mk (Kd.R_below (by exact zro HO948 E7 (by decide)) hb); have n3_ := Aside0.mk (blk_below (g := G0) (o := .cells #[.int .i64 t944, .int .i64 t945, .slice Ao94 t946.length co94] 40 (0, 0)) (by exact zp E7 rfl) hb); have n4_ := Aside0.mk (below_step (by exact zbo HB Z8) hb); replace E2 := zfk E2 V8 hb; replace E0 := zfk E0 Y7 hb; replace E1 := zfk E1 Y8 hb; replace E4 := zfk E4 V9 hb; replace E3 := zfk E3 Y9 hb; replace E5 := zfk E5 Z0 hb; replace E6 := zfk E6 Z1 hb; replace E8 := zfk E8 Z2 hb; clear HO934; clear HO941; clear HO948; clear E7; clear HB; have HO934 := n0_; have HO941 := n1_; have HO948 := n2_; have E7 := n3_; have HB := n4_; clear n0_ n1_ n2_ n3_ n4_; (try clear hb); obtain ⟨E5b, E5c, E5d, E5e, E5f, E5g, E5h, E5i⟩ := zq4 E5; obtain ⟨E5j, E5k, E5l, E5m, E5n, E5o, E5p, E5q⟩ := zq4 E3) | (go_at_call 25; (with_reducible refine (rect_Within.calls t923 t924 t925 t926 0 0 a0_0 a0_1 true _ A100.out).mono ?_); rintro e w108 ⟨rfl, hb⟩; replace HO934 := zr HO934 hb; replace HO941 := zr HO941 hb; replace HO948 := zr HO948 hb; replace E2 := zk E2 hb; replace E0 := zk E0 hb; replace E1 := zk E1 hb; replace E4 := zk E4 hb; replace E3 := zk E3 hb; replace E5 := zk E5 hb; replace E6 := zk E6 hb; replace E8 := zk E8 hb; replace E7 := zk E7 hb; replace HB := zb HB hb; (try clear hb); obtain ⟨E5r, E5s, E5t, E5u, E5v, E5w, E5x, E5y⟩ := zq4 E1; obtain ⟨E5z, E5A, E5B, E5C, E5D, E5E, E5F, E5G⟩ := zq4 E5) | (go_at_call 25; (with_reducible refine (rect_Within.calls a3_0 a3_1 a3_2 a3_3 t923 t924 t925 t926 t953 _ A102.out).mono ?_); rintro e w111 ⟨rfl, hb⟩; replace HO934 := zr HO934 hb; replace HO941 := zr HO941 hb; replace HO948 := zr HO948 hb; replace E2 := zk E2 hb; replace E0 := zk E0 hb; replace E1 := zk E1 hb; replace E4 := zk E4 hb; replace E3 := zk E3 hb; replace E5 := zk E5 hb; replace E6 := zk E6 hb; replace E8 := zk E8 hb; replace E7 := zk E7 hb; replace HB := zb HB hb; (try clear hb)))
      go_meet
      case rel => exact ⟨_, (!t953), (by first | rfl | (simp; done) | (simp [*]; done)), H', ⟨by have := HJ5.out; first | omega | exact Nat.le_refl _⟩, ⟨by (with_reducible repeat (first | apply Kd.R_alloc | apply Kd.R_drewN | apply Kd.R_drew)); exact Kd.R_mono HO934.out (fun _ hk => hk.2)⟩, ⟨by (with_reducible repeat (first | apply Kd.R_alloc | apply Kd.R_drewN | apply Kd.R_drew)); exact Kd.R_mono HO941.out (fun _ hk => hk.2)⟩, ⟨by (with_reducible repeat (first | apply Kd.R_alloc | apply Kd.R_drewN | apply Kd.R_drew)); exact Kd.R_mono HO948.out (fun _ hk => hk.2)⟩, ⟨by exact zk0 E2⟩, ⟨by exact zk0 E0⟩, ⟨by exact zk0 E1⟩, ⟨by exact zk0 E4⟩, ⟨by exact zk0 E3⟩, ⟨by exact zk0 E5⟩, ⟨by exact zk0 E6⟩, ⟨by exact zk0 E8⟩, ⟨by exact zk0 E7⟩, ⟨by exact zb0 HB⟩⟩
    replace c101 := Bool.eq_false_iff.mpr c101
    subst c101
    rw [if_neg (show ¬ (false = true) by decide)] at H
    as_aux_lemma =>
     have H' := Aside0.mk H
     clear H
     obtain ⟨E5H, E5I, E5J, E5K, E5L, E5M⟩ := zq3 E6
     obtain ⟨E5N, E5O, E5P, E5Q, E5R, E5S⟩ := zq3 E7
     go_wp2_with (first | (go_at_call 21; (with_reducible refine (imageeditorlaw15_same.calls kj5 t930 t931 _ _ t932 t944 t945 _ _ t946 true _ ?side1 ?side2 ?side3 ?side4 A98.out).mono ?_); (case side1 => refine (Kd.R_reads' (e := 48) (base := w.heap.size) (ok := fun k_ => (True ∧ k_ ≠ V2)) (n := t932.length) (c := co65) ?_).2.2; exact (by exact zro HO934 E7 (by decide))); (case side2 => exact (Kd.R_reads' HO934.out).2.1); (case side3 => refine (Kd.R_reads' (e := 48) (base := w.heap.size) (ok := fun k_ => (True ∧ k_ ≠ V2)) (n := t946.length) (c := co94) ?_).2.2; exact (by exact zro HO948 E7 (by decide))); (case side4 => exact (Kd.R_reads' HO948.out).2.1); rintro e w114 ⟨rfl, hb⟩; have n0_ := Aside0.mk (Kd.R_below (by exact zro HO934 E7 (by decide)) hb); have n1_ := Aside0.mk (Kd.R_below (by exact zro HO941 E7 (by decide)) hb); have n2_ := Aside0.mk (Kd.R_below (by exact zro HO948 E7 (by decide)) hb); have n3_ := Aside0.mk (blk_below (g := G0) (o := .cells #[.int .i64 t944, .int .i64 t945, .slice Ao94 t946.length co94] 40 (0, 0)) (by exact zp E7 rfl) hb); have n4_ := Aside0.mk (below_step (by exact zbo HB Z8) hb); replace E2 := zfk E2 V8 hb; replace E0 := zfk E0 Y7 hb; replace E1 := zfk E1 Y8 hb; replace E4 := zfk E4 V9 hb; replace E3 := zfk E3 Y9 hb; replace E5 := zfk E5 Z0 hb; replace E6 := zfk E6 Z1 hb; replace E8 := zfk E8 Z2 hb; clear HO934; clear HO941; clear HO948; clear E7; clear HB; have HO934 := n0_; have HO941 := n1_; have HO948 := n2_; have E7 := n3_; have HB := n4_; clear n0_ n1_ n2_ n3_ n4_; (try clear hb); obtain ⟨E5T, E5U, E5V, E5W, E5X, E5Y, E5Z, E6a⟩ := zq4 E5; obtain ⟨E6b, E6c, E6d, E6e, E6f, E6g, E6h, E6i⟩ := zq4 E3) | (go_at_call 25; (with_reducible refine (rect_Within.calls t923 t924 t925 t926 0 0 a0_0 a0_1 false _ A100.out).mono ?_); rintro e w117 ⟨rfl, hb⟩; replace HO934 := zr HO934 hb; replace HO941 := zr HO941 hb; replace HO948 := zr HO948 hb; replace E2 := zk E2 hb; replace E0 := zk E0 hb; replace E1 := zk E1 hb; replace E4 := zk E4 hb; replace E3 := zk E3 hb; replace E5 := zk E5 hb; replace E6 := zk E6 hb; replace E8 := zk E8 hb; replace E7 := zk E7 hb; replace HB := zb HB hb; (try clear hb)))
     go_meet
     case rel => exact ⟨_, (true), (by first | rfl | (simp; done) | (simp [*]; done)), H', ⟨by have := HJ5.out; first | omega | exact Nat.le_refl _⟩, ⟨by (with_reducible repeat (first | apply Kd.R_alloc | apply Kd.R_drewN | apply Kd.R_drew)); exact Kd.R_mono HO934.out (fun _ hk => hk.2)⟩, ⟨by (with_reducible repeat (first | apply Kd.R_alloc | apply Kd.R_drewN | apply Kd.R_drew)); exact Kd.R_mono HO941.out (fun _ hk => hk.2)⟩, ⟨by (with_reducible repeat (first | apply Kd.R_alloc | apply Kd.R_drewN | apply Kd.R_drew)); exact Kd.R_mono HO948.out (fun _ hk => hk.2)⟩, ⟨by exact zk0 E2⟩, ⟨by exact zk0 E0⟩, ⟨by exact zk0 E1⟩, ⟨by exact zk0 E4⟩, ⟨by exact zk0 E3⟩, ⟨by exact zk0 E5⟩, ⟨by exact zk0 E6⟩, ⟨by exact zk0 E8⟩, ⟨by exact zk0 E7⟩, ⟨by exact zb0 HB⟩⟩
   case rest =>
    clear HC28
    try clear c1
    try clear c2
    try clear p2
    try clear c3
    try clear q3
    try clear c4
    try clear q4
    try clear c5
    try clear c6
    try clear c7
    try clear c8
    try clear c9
    try clear c10
    try clear c12
    try clear Y6
    try clear E0c
    try clear c16
    try clear c17
    try clear c19
    try clear c20
    try clear c22
    try clear c24
    try clear E1a
    try clear E1b
    try clear c29
    try clear c30
    try clear c31
    try clear c34
    try clear c35
    try clear c36
    try clear c37
    try clear c39
    try clear c40
    try clear c42
    try clear c46
    try clear c47
    try clear c48
    try clear c49
    try clear c50
    try clear c58
    try clear c59
    try clear c60
    try clear c61
    try clear c62
    try clear c63
    try clear c70
    try clear c71
    try clear c72
    try clear c73
    try clear c74
    try clear c75
    try clear c76
    try clear c85
    try clear c86
    try clear c87
    try clear c88
    try clear c89
    try clear c90
    try clear c91
    try clear c92
    try clear c95
    try clear Z9
    try clear E1q
    try clear c96
    try clear E1r
    try clear E1s
    try clear c97
    try clear E1t
    try clear E1u
    try clear c99
    try clear c101
    try clear E4P
    try clear E4Q
    try clear E4R
    try clear E4V
    try clear E4W
    try clear E4X
    try clear E5b
    try clear E5c
    try clear E5d
    try clear E5e
    try clear E5j
    try clear E5k
    try clear E5l
    try clear E5m
    try clear E5r
    try clear E5s
    try clear E5t
    try clear E5u
    try clear E5z
    try clear E5A
    try clear E5B
    try clear E5C
    try clear E5H
    try clear E5I
    try clear E5J
    try clear E5N
    try clear E5O
    try clear E5P
    try clear E5T
    try clear E5U
    try clear E5V
    try clear E5W
    try clear E6b
    try clear E6c
    try clear E6d
    try clear E6e
    try clear E4D
    try clear E4E
    try clear E4F
    try clear E4J
    try clear E4K
    try clear E4L
    try clear E0G
    try clear E0H
    try clear E0I
    try clear E0M
    try clear E0N
    try clear E0O
    try clear E0P
    try clear E0U
    try clear E0V
    try clear E0W
    try clear E1V
    try clear E1W
    try clear E1X
    try clear E2b
    try clear E2c
    try clear E2d
    try clear E2e
    try clear E2j
    try clear E2k
    try clear E2l
    try clear E2m
    try clear E2r
    try clear E2s
    try clear E2t
    try clear E2u
    try clear E2z
    try clear E2A
    try clear E2B
    try clear E2C
    try clear E2H
    try clear E2I
    try clear E2J
    try clear E2N
    try clear E2O
    try clear E2P
    try clear E2Q
    try clear E2V
    try clear E2W
    try clear E2X
    try clear E2Y
    try clear E3d
    try clear E3e
    try clear E3f
    try clear E3g
    try clear E3l
    try clear E3m
    try clear E3n
    try clear E3r
    try clear E3s
    try clear E3t
    try clear E3x
    try clear E3y
    try clear E3z
    try clear E3A
    try clear E3F
    try clear E3G
    try clear E3H
    try clear E3L
    try clear E3M
    try clear E3N
    try clear E3O
    try clear E3T
    try clear E3U
    try clear E3V
    try clear E3W
    try clear E4b
    try clear E4c
    try clear E4d
    try clear E4e
    try clear E4j
    try clear E4k
    try clear E4l
    try clear E4m
    try clear E4x
    try clear E4y
    try clear E4z
    try clear E4S
    try clear E4T
    try clear E4U
    try clear E4Y
    try clear E4Z
    try clear E5a
    try clear E5f
    try clear E5g
    try clear E5h
    try clear E5i
    try clear E5n
    try clear E5o
    try clear E5p
    try clear E5q
    try clear E5v
    try clear E5w
    try clear E5x
    try clear E5y
    try clear E5D
    try clear E5E
    try clear E5F
    try clear E5G
    try clear E5K
    try clear E5L
    try clear E5M
    try clear E5Q
    try clear E5R
    try clear E5S
    try clear E5X
    try clear E5Y
    try clear E5Z
    try clear E6a
    try clear E6f
    try clear E6g
    try clear E6h
    try clear E6i
    try clear E4G
    try clear E4H
    try clear E4I
    try clear E4M
    try clear E4N
    try clear E4O
    try clear E0J
    try clear E0K
    try clear E0L
    try clear E0Q
    try clear E0R
    try clear E0S
    try clear E0T
    try clear E0X
    try clear E0Y
    try clear E0Z
    try clear E1Y
    try clear E1Z
    try clear E2a
    try clear E2f
    try clear E2g
    try clear E2h
    try clear E2i
    try clear E2n
    try clear E2o
    try clear E2p
    try clear E2q
    try clear E2v
    try clear E2w
    try clear E2x
    try clear E2y
    try clear E2D
    try clear E2E
    try clear E2F
    try clear E2G
    try clear E2K
    try clear E2L
    try clear E2M
    try clear E2R
    try clear E2S
    try clear E2T
    try clear E2U
    try clear E2Z
    try clear E3a
    try clear E3b
    try clear E3c
    try clear E3h
    try clear E3i
    try clear E3j
    try clear E3k
    try clear E3o
    try clear E3p
    try clear E3q
    try clear E3u
    try clear E3v
    try clear E3w
    try clear E3B
    try clear E3C
    try clear E3D
    try clear E3E
    try clear E3I
    try clear E3J
    try clear E3K
    try clear E3P
    try clear E3Q
    try clear E3R
    try clear E3S
    try clear E3X
    try clear E3Y
    try clear E3Z
    try clear E4a
    try clear E4f
    try clear E4g
    try clear E4h
    try clear E4i
    try clear E4n
    try clear E4o
    try clear E4p
    try clear E4q
    try clear E4A
    try clear E4B
    try clear E4C
    try clear p2
    try clear q3
    try clear q4
    obtain ⟨kq, x104_27, rfl, HA, HJ27, G1, G7, E1v, E2, E0, E1, E4, E3, E5, E6, E8, E7, HB⟩ := hcut
    cases kq with
    | zero => exact absurd HA.out (by simp [imageeditorlaw15_WarpIgnores.j1])
    | succ kj27 =>
     have H := HA.out
     clear HA
     simp only [imageeditorlaw15_WarpIgnores.j1] at H
     by_cases c121 : x104_27 = true
     ·subst c121
      rw [if_pos rfl] at H
      as_aux_lemma =>
       exact absurd HT.out (by rw [← Option.some.inj H]; decide)
     replace c121 := Bool.eq_false_iff.mpr c121
     subst c121
     rw [if_neg (show ¬ (false = true) by decide)] at H
     replace H := Option.bind_eq_some_iff.mp H
     obtain ⟨⟨t954, t955, t956, t959⟩, A1220, H⟩ := H
     try dsimp only at H
     have A122 := Aside0.mk A1220
     clear A1220
     by_cases c123 : t959 = 0
     rotate_left
     ·rw [if_neg c123] at H
      have E6j : (t959 == 0) = false := beq_eq_false_iff_ne.mpr c123
      have E6k : (t959 != 0) = true := bne_iff_ne.mpr c123
      replace H := Option.bind_eq_some_iff.mp H
      obtain ⟨t961, A1940, H⟩ := H
      try dsimp only at H
      have A194 := Aside0.mk A1940
      clear A1940
      as_aux_lemma =>
       obtain rfl := Option.some.inj H
       have E9j := L0.out
       have E9k := L1.out
       have E9l := L2.out
       have E9m := L3.out
       have E9n := L4.out
       have E9o := L5.out
       have E9p := Q0.out
       have E9q := E0d.out
       have E9r := Q2.out
       have E9s := E0f.out
       have E9t := Q3.out
       have E9u := E0l.out
       have E9v := Q4.out
       have E9w := E0s.out
       have E9x := V8.out
       have E9y := E0z.out
       obtain ⟨E9z, E9A, E9B, E9C, E9D, E9E⟩ := zq3 E2
       have E9F := Q9.out
       have E9G := Q8.out
       have E9H := E0b.out
       have E9I := E0a.out
       have E9J := Q1.out
       have E9K := E0e.out
       have E9L := J1.out
       have E9M := E0i.out
       have E9N := J2.out
       have E9O := E0o.out
       have E9P := J3.out
       have E9Q := E0v.out
       have E9R := V9.out
       have E9S := E0A.out
       obtain ⟨E9T, E9U, E9V, E9W, E9X, E9Y, E9Z, G0a⟩ := zq4 E4
       (try clear G1)
       (try clear G7)
       (try clear E1v)
       (try clear E2)
       (try clear E0)
       (try clear E1)
       (try clear E4)
       (try clear E3)
       (try clear E5)
       (try clear E6)
       (try clear E8)
       (try clear E7)
       go_wp2_with (first | ((with_reducible refine gate_callee (f := 26) rfl ?_); refine goesL_ (some 111) rfl rfl Try.func26 (by kernel_rfl) rfl #[.int .i64 a0_0, .int .i64 a0_1, .agg #[.int .i64 a4_0, .int .i64 a4_1, .int .i64 a4_2, .int .i64 a4_3]] rfl (by (try simp only [List.map_toArray, List.map_cons, List.map_nil]); first | done | rfl | (simp only [List.length_drop, List.length_take]; rfl)) ?_; (with_reducible refine (raster_New.calls kj27 a0_0 a0_1 a4_0 a4_1 a4_2 a4_3 t954 t955 t956 t959 _ A122.out).mono ?_); rintro e w212 ⟨v957, rfl, ho0, hb⟩; refine ⟨_, rfl, ?_⟩; have HO958 := zl HB ho0; replace HB := zb HB hb; (try clear hb); (try clear ho0)) | ((with_reducible refine gate_dst (N := 19) rfl ?_); refine box_event ?hg (N := 19) ?hd (cs := #[.int .i64 0, .int .i64 0, .slice none 0 0]) (t := 40) ?hr ?_; (case hd => rfl); (case hg => rfl); (case hr => first | (go_simp; done) | (go_simp; rfl)); intro E0B hg w213 hbox hb; have E6l := zg HB hg; have Q5 := zg HB hg; have n0_ := Aside0.mk (hbox); replace HO958 := zr HO958 hb; replace HB := zb HB hb; have G6 := n0_; clear n0_; clear hb hbox hg; obtain ⟨G0b, G0c, G0d, G0e, G0f, G0g⟩ := zq3 G6; obtain ⟨Ao215, co215, eo215⟩ := Kd.R_slice HO958.out; subst eo215) | ((with_reducible refine gate_callee (f := 16) rfl ?_); refine goesL_ (some 116) rfl rfl Try.func16 (by kernel_rfl) rfl #[] rfl (by (try simp only [List.map_toArray, List.map_cons, List.map_nil]); first | done | rfl | (simp only [List.length_drop, List.length_take]; rfl)) ?_; (with_reducible refine (imageeditorlaw15_awake.calls kj27  t961 _ A194.out).mono ?_); rintro e w216 ⟨rfl, hb⟩; refine ⟨_, rfl, ?_⟩; have n0_ := Aside0.mk (Kd.R_below (by exact zro HO958 G6 (by decide)) hb); have n1_ := Aside0.mk (blk_below (g := E0B) (o := .cells #[.int .i64 t954, .int .i64 t955, .slice Ao215 t956.length co215] 40 (0, 0)) (by exact zp G6 rfl) hb); have n2_ := Aside0.mk (below_step (by exact zbo HB Q5) hb); clear HO958; clear G6; clear HB; have HO958 := n0_; have G6 := n1_; have HB := n2_; clear n0_ n1_ n2_; (try clear hb)))
       go_ret
       exact ⟨by first | rfl | (simp [errW_none, errW_some] <;> rfl) | (simp [*, errW_none, errW_some] <;> rfl), by exact zb0 HB⟩
     rw [if_pos c123] at H
     have E6j : (t959 == 0) = true := beq_iff_eq.mpr c123
     have E6k : (t959 != 0) = false := bne_eq_false_iff_eq.mpr c123
     clear c123
     replace H := Option.bind_eq_some_iff.mp H
     obtain ⟨⟨t962, t963, t964, t967⟩, A1240, H⟩ := H
     try dsimp only at H
     have A124 := Aside0.mk A1240
     clear A1240
     replace H := Option.bind_eq_some_iff.mp H
     obtain ⟨⟨t969, t970, t971, t974⟩, A1250, H⟩ := H
     try dsimp only at H
     have A125 := Aside0.mk A1250
     clear A1250
     by_cases c126 : t967 = 0
     rotate_left
     ·rw [if_neg c126] at H
      have E6m : (t967 == 0) = false := beq_eq_false_iff_ne.mpr c126
      have E6n : (t967 != 0) = true := bne_iff_ne.mpr c126
      as_aux_lemma =>
       exact absurd HT.out (by rw [← Option.some.inj H]; decide)
     rw [if_pos c126] at H
     have E6m : (t967 == 0) = true := beq_iff_eq.mpr c126
     have E6n : (t967 != 0) = false := bne_eq_false_iff_eq.mpr c126
     clear c126
     by_cases c127 : t974 = 0
     rotate_left
     ·rw [if_neg c127] at H
      have E6o : (t974 == 0) = false := beq_eq_false_iff_ne.mpr c127
      have E6p : (t974 != 0) = true := bne_iff_ne.mpr c127
      as_aux_lemma =>
       exact absurd HT.out (by rw [← Option.some.inj H]; decide)
     rw [if_pos c127] at H
     have E6o : (t974 == 0) = true := beq_iff_eq.mpr c127
     have E6p : (t974 != 0) = false := bne_eq_false_iff_eq.mpr c127
     clear c127
     replace H := Option.bind_eq_some_iff.mp H
     obtain ⟨t976, A1280, H⟩ := H
     try dsimp only at H
     have A128 := Aside0.mk A1280
     clear A1280
     by_cases c129 : t976 = true
     rotate_left
     ·replace c129 := Bool.eq_false_iff.mpr c129
      subst c129
      rw [if_neg (show ¬ (false = true) by decide)] at H
      as_aux_lemma =>
       exact absurd HT.out (by rw [← Option.some.inj H]; decide)
     subst c129
     rw [if_pos rfl] at H
     replace H := Option.bind_eq_some_iff.mp H
     obtain ⟨t977, A1300, H⟩ := H
     try dsimp only at H
     have A130 := Aside0.mk A1300
     clear A1300
     as_aux_lemma =>
      obtain rfl := Option.some.inj H
      have G0h := L0.out
      have G0i := L1.out
      have G0j := L2.out
      have G0k := L3.out
      have G0l := L4.out
      have G0m := L5.out
      have G0n := Q0.out
      have G0o := E0d.out
      have G0p := Q2.out
      have G0q := E0f.out
      have G0r := Q3.out
      have G0s := E0l.out
      have G0t := Q4.out
      have G0u := E0s.out
      have G0v := V8.out
      have G0w := E0z.out
      obtain ⟨G0x, G0y, G0z, G0A, G0B, G0C⟩ := zq3 E2
      have G0D := Q9.out
      have G0E := Q8.out
      have G0F := E0b.out
      have G0G := E0a.out
      have G0H := Q1.out
      have G0I := E0e.out
      have G0J := J1.out
      have G0K := E0i.out
      have G0L := J2.out
      have G0M := E0o.out
      have G0N := J3.out
      have G0O := E0v.out
      have G0P := V9.out
      have G0Q := E0A.out
      obtain ⟨G0R, G0S, G0T, G0U, G0V, G0W, G0X, G0Y⟩ := zq4 E4
      have n_ := Aside0.mk (Kd.R_mono (ok' := fun k_ => True) G1.out (fun k_ hk_ => trivial))
      clear G1
      have G1 := n_
      clear n_
      have n_ := Aside0.mk (Kd.R_mono (ok' := fun k_ => True) G7.out (fun k_ hk_ => trivial))
      clear G7
      have G7 := n_
      clear n_
      (try clear E1v)
      (try clear E2)
      (try clear E4)
      (try clear E7)
      go_wp2_with (first | ((with_reducible refine gate_callee (f := 26) rfl ?_); refine goesL_ (some 111) rfl rfl Try.func26 (by kernel_rfl) rfl #[.int .i64 a0_0, .int .i64 a0_1, .agg #[.int .i64 a4_0, .int .i64 a4_1, .int .i64 a4_2, .int .i64 a4_3]] rfl (by (try simp only [List.map_toArray, List.map_cons, List.map_nil]); first | done | rfl | (simp only [List.length_drop, List.length_take]; rfl)) ?_; (with_reducible refine (raster_New.calls kj27 a0_0 a0_1 a4_0 a4_1 a4_2 a4_3 t954 t955 t956 t959 _ A122.out).mono ?_); rintro e w148 ⟨v957, rfl, ho0, hb⟩; refine ⟨_, rfl, ?_⟩; have HO958 := zl HB ho0; replace G1 := zr G1 hb; replace G7 := zr G7 hb; replace E0 := zk E0 hb; replace E1 := zk E1 hb; replace E3 := zk E3 hb; replace E5 := zk E5 hb; replace E6 := zk E6 hb; replace E8 := zk E8 hb; replace HB := zb HB hb; (try clear hb); (try clear ho0)) | ((with_reducible refine gate_dst (N := 19) rfl ?_); refine box_event ?hg (N := 19) ?hd (cs := #[.int .i64 0, .int .i64 0, .slice none 0 0]) (t := 40) ?hr ?_; (case hd => rfl); (case hg => rfl); (case hr => first | (go_simp; done) | (go_simp; rfl)); intro E0B hg w149 hbox hb; have E6l := zg HB hg; have Q5 := zg HB hg; have E1w := zn E0 hg; have E6q := zn' E0 hg; have E1x := zn E1 hg; have E6r := zn' E1 hg; have E1y := zn E3 hg; have E6s := zn' E3 hg; have E1z := zn E5 hg; have E6t := zn' E5 hg; have E1A := zn E6 hg; have E6u := zn' E6 hg; have E1B := zn E8 hg; have E6v := zn' E8 hg; have n0_ := Aside0.mk (hbox); replace G1 := zr G1 hb; replace G7 := zr G7 hb; replace HO958 := zr HO958 hb; replace E0 := zk E0 hb; replace E1 := zk E1 hb; replace E3 := zk E3 hb; replace E5 := zk E5 hb; replace E6 := zk E6 hb; replace E8 := zk E8 hb; replace HB := zb HB hb; have G6 := n0_; clear n0_; clear hb hbox hg; have G0Z := E6q.out; have G1a := E1w.out; have G1b := E6r.out; have G1c := E1x.out; have G1d := E6s.out; have G1e := E1y.out; have G1f := E6t.out; have G1g := E1z.out; have G1h := E6u.out; have G1i := E1A.out; have G1j := E6v.out; have G1k := E1B.out; obtain ⟨G1l, G1m, G1n, G1o, G1p, G1q⟩ := zq3 G6; obtain ⟨Ao157, co157, eo157⟩ := Kd.R_slice HO958.out; subst eo157; have G1r := E1l.out; have G1s := E0t.out; have G1t := E1m.out; have G1u := E0u.out; have G1v := E1n.out; have G1w := E0w.out; have G1x := E1o.out; have G1y := E0x.out; have G1z := E1p.out; have G1A := E0y.out; obtain ⟨G1B, G1C, G1D, G1E, G1F, G1G⟩ := zq3 E8; have G1H := E1c.out; have G1I := E0g.out; have G1J := E1d.out; have G1K := E0h.out; have G1L := E1e.out; have G1M := E0j.out; have G1N := E0q.out; have G1O := E1j.out; obtain ⟨G1P, G1Q, G1R, G1S, G1T, G1U, G1V, G1W⟩ := zq4 E5) | ((with_reducible refine gate_callee (f := 27) rfl ?_); refine goesL_ (some 125) rfl rfl Try.func27 (by kernel_rfl) rfl #[.agg #[.int .i64 t954, .int .i64 t955, .slice Ao157 t956.length co157], .agg #[.int .i64 t937, .int .i64 t938, .slice Ao78 t939.length co78], .agg #[.int .i64 t923, .int .i64 t924]] rfl (by (try simp only [List.map_toArray, List.map_cons, List.map_nil]); first | done | rfl | (simp only [List.length_drop, List.length_take]; rfl)) ?_; (with_reducible refine (raster_Put.calls kj27 t954 t955 _ _ t956 t937 t938 _ _ t939 t923 t924 t962 t963 t964 t967 _ ?side1 ?side2 ?side3 ?side4 A124.out).mono ?_); (case side1 => refine (Kd.R_reads' (e := 48) (base := w.heap.size) (ok := fun k_ => True) (n := t956.length) (c := co157) ?_).2.2; exact (by exact zro HO958 G6 (by decide))); (case side2 => exact (Kd.R_reads' HO958.out).2.1); (case side3 => refine (Kd.R_reads' (e := 48) (base := w.heap.size) (ok := fun k_ => True) (n := t939.length) (c := co78) ?_).2.2; exact (by exact zro G7 G6 (by decide))); (case side4 => exact (Kd.R_reads' G7.out).2.1); rintro e w169 ⟨v965, rfl, ho0, hb⟩; refine ⟨_, rfl, ?_⟩; have n0_ := Aside0.mk (Kd.R_below (by exact zro G1 G6 (by decide)) hb); have n1_ := Aside0.mk (Kd.R_below (by exact zro G7 G6 (by decide)) hb); have n2_ := Aside0.mk (Kd.R_below (by exact zro HO958 G6 (by decide)) hb); have n3_ := Aside0.mk (Kd.R_lower ho0 (below_size (by exact zbo HB Q5))); have n4_ := Aside0.mk (blk_below (g := E0B) (o := .cells #[.int .i64 t954, .int .i64 t955, .slice Ao157 t956.length co157] 40 (0, 0)) (by exact zp G6 rfl) hb); have n5_ := Aside0.mk (below_step (by exact zbo HB Q5) hb); replace E0 := zfk E0 E1w hb; replace E1 := zfk E1 E1x hb; replace E3 := zfk E3 E1y hb; replace E5 := zfk E5 E1z hb; replace E6 := zfk E6 E1A hb; replace E8 := zfk E8 E1B hb; clear G1; clear G7; clear HO958; clear G6; clear HB; have G1 := n0_; have G7 := n1_; have HO958 := n2_; have HO966 := n3_; have G6 := n4_; have HB := n5_; clear n0_ n1_ n2_ n3_ n4_ n5_; (try clear hb); (try clear ho0); (try clear G7); (try clear E5); (try clear E8); (try clear HO958); (try clear G6)) | ((with_reducible refine gate_dst (N := 20) rfl ?_); refine box_event ?hg (N := 20) ?hd (cs := #[.int .i64 0, .int .i64 0, .slice none 0 0]) (t := 40) ?hr ?_; (case hd => rfl); (case hg => rfl); (case hr => first | (go_simp; done) | (go_simp; rfl)); intro E6w hg w170 hbox hb; have G1X := zg HB hg; have E0C := zg HB hg; have E1C := zn E0 hg; have E6x := zn' E0 hg; have E1D := zn E1 hg; have E6y := zn' E1 hg; have E1E := zn E3 hg; have E6z := zn' E3 hg; have E1F := zn E6 hg; have E6A := zn' E6 hg; have n0_ := Aside0.mk (hbox); replace G1 := zr G1 hb; replace HO966 := zr HO966 hb; replace E0 := zk E0 hb; replace E1 := zk E1 hb; replace E3 := zk E3 hb; replace E6 := zk E6 hb; replace HB := zb HB hb; have Y5 := n0_; clear n0_; clear hb hbox hg; have G1Y := E6x.out; have G1Z := E1C.out; have G2a := E6y.out; have G2b := E1D.out; have G2c := E6z.out; have G2d := E1E.out; have G2e := E6A.out; have G2f := E1F.out; obtain ⟨G2g, G2h, G2i, G2j, G2k, G2l⟩ := zq3 Y5; obtain ⟨Ao176, co176, eo176⟩ := Kd.R_slice HO966.out; subst eo176; have G2m := L7.out; have G2n := Z5.out; have G2o := L8.out; have G2p := Z6.out; have G2q := E0p.out; have G2r := E1i.out; obtain ⟨G2s, G2t, G2u, G2v, G2w, G2x, G2y, G2z⟩ := zq4 E3; have G2A := Q6.out; have G2B := Q7.out; have G2C := E0m.out; have G2D := E1g.out; obtain ⟨G2E, G2F, G2G, G2H, G2I, G2J, G2K, G2L⟩ := zq4 E0; have G2M := E0n.out; have G2N := E1h.out; obtain ⟨G2O, G2P, G2Q, G2R, G2S, G2T, G2U, G2V⟩ := zq4 E1) | ((with_reducible refine gate_callee (f := 19) rfl ?_); refine goesL_ (some 135) rfl rfl Try.func19 (by kernel_rfl) rfl #[.agg #[.int .i64 t962, .int .i64 t963, .slice Ao176 t964.length co176], .agg #[.int .i64 0, .int .i64 0], .agg #[.int .i64 0, .int .i64 0, .int .i64 a0_0, .int .i64 a0_1], .agg #[.int .i64 a1_0, .int .i64 a1_1, .int .i64 a1_2, .slice A1_3 l1_3.length c1_3], .int .i64 a2, .agg #[.int .i64 a3_0, .int .i64 a3_1, .int .i64 a3_2, .int .i64 a3_3]] rfl (by (try simp only [List.map_toArray, List.map_cons, List.map_nil]); first | done | rfl | (simp only [List.length_drop, List.length_take]; rfl)) ?_; (with_reducible refine (warp_Draw.calls kj27 t962 t963 _ _ t964 0 0 0 0 a0_0 a0_1 a1_0 a1_1 a1_2 _ _ l1_3 a2 a3_0 a3_1 a3_2 a3_3 t969 t970 t971 t974 _ ?side1 ?side2 ?side3 ?side4 A125.out).mono ?_); (case side1 => refine (Kd.R_reads' (e := 48) (base := w.heap.size) (ok := fun k_ => True) (n := t964.length) (c := co176) ?_).2.2; exact (by exact zro HO966 Y5 (by decide))); (case side2 => exact (Kd.R_reads' HO966.out).2.1); (case side3 => exact Kd.C_below Z3.out (by exact zbo HB E0C)); (case side4 => exact Z4.out); rintro e w186 ⟨v972, rfl, ho0, hb⟩; refine ⟨_, rfl, ?_⟩; have n0_ := Aside0.mk (Kd.R_below (by exact zro G1 Y5 (by decide)) hb); have n1_ := Aside0.mk (Kd.R_below (by exact zro HO966 Y5 (by decide)) hb); have n2_ := Aside0.mk (Kd.R_lower ho0 (below_size (by exact zbo HB E0C))); have n3_ := Aside0.mk (blk_below (g := E6w) (o := .cells #[.int .i64 t962, .int .i64 t963, .slice Ao176 t964.length co176] 40 (0, 0)) (by exact zp Y5 rfl) hb); have n4_ := Aside0.mk (below_step (by exact zbo HB E0C) hb); replace E0 := zfk E0 E1C hb; replace E1 := zfk E1 E1D hb; replace E3 := zfk E3 E1E hb; replace E6 := zfk E6 E1F hb; clear G1; clear HO966; clear Y5; clear HB; have G1 := n0_; have HO966 := n1_; have HO973 := n2_; have Y5 := n3_; have HB := n4_; clear n0_ n1_ n2_ n3_ n4_; (try clear hb); (try clear ho0); (try clear E0); (try clear E1); (try clear E3); (try clear HO966); (try clear Y5)) | ((with_reducible refine gate_dst (N := 21) rfl ?_); refine box_event ?hg (N := 21) ?hd (cs := #[.int .i64 0, .int .i64 0, .slice none 0 0]) (t := 40) ?hr ?_; (case hd => rfl); (case hg => rfl); (case hr => first | (go_simp; done) | (go_simp; rfl)); intro E6B hg w187 hbox hb; have G2W := zg HB hg; have E6C := zg HB hg; have E1G := zn E6 hg; have E6D := zn' E6 hg; have n0_ := Aside0.mk (hbox); replace G1 := zr G1 hb; replace HO973 := zr HO973 hb; replace E6 := zk E6 hb; replace HB := zb HB hb; have Y0 := n0_; clear n0_; clear hb hbox hg; have G2X := E6D.out; have G2Y := E1G.out; obtain ⟨G2Z, G3a, G3b, G3c, G3d, G3e⟩ := zq3 Y0; obtain ⟨Ao190, co190, eo190⟩ := Kd.R_slice HO973.out; subst eo190; obtain ⟨G3f, G3g, G3h, G3i, G3j, G3k⟩ := zq3 E6) | (go_at_call 21; (with_reducible refine (imageeditorlaw15_same.calls kj27 t930 t931 _ _ t932 t969 t970 _ _ t971 true _ ?side1 ?side2 ?side3 ?side4 A128.out).mono ?_); (case side1 => refine (Kd.R_reads' (e := 48) (base := w.heap.size) (ok := fun k_ => True) (n := t932.length) (c := co65) ?_).2.2; exact (by exact zro G1 Y0 (by decide))); (case side2 => exact (Kd.R_reads' G1.out).2.1); (case side3 => refine (Kd.R_reads' (e := 48) (base := w.heap.size) (ok := fun k_ => True) (n := t971.length) (c := co190) ?_).2.2; exact (by exact zro HO973 Y0 (by decide))); (case side4 => exact (Kd.R_reads' HO973.out).2.1); rintro e w192 ⟨rfl, hb⟩; have n0_ := Aside0.mk (Kd.R_below (by exact zro G1 Y0 (by decide)) hb); have n1_ := Aside0.mk (Kd.R_below (by exact zro HO973 Y0 (by decide)) hb); have n2_ := Aside0.mk (blk_below (g := E6B) (o := .cells #[.int .i64 t969, .int .i64 t970, .slice Ao190 t971.length co190] 40 (0, 0)) (by exact zp Y0 rfl) hb); have n3_ := Aside0.mk (below_step (by exact zbo HB E6C) hb); replace E6 := zfk E6 E1G hb; clear G1; clear HO973; clear Y0; clear HB; have G1 := n0_; have HO973 := n1_; have Y0 := n2_; have HB := n3_; clear n0_ n1_ n2_ n3_; (try clear hb); (try clear G1); (try clear E6); (try clear HO973); (try clear Y0)) | (go_at_call 16; (with_reducible refine (imageeditorlaw15_awake.calls kj27  t977 _ A130.out).mono ?_); rintro e w193 ⟨rfl, hb⟩; replace HB := zb HB hb; (try clear hb)))
      go_ret
      exact ⟨by first | rfl | (simp [errW_none, errW_some] <;> rfl) | (simp [*, errW_none, errW_some] <;> rfl), by exact zb0 HB⟩
end Go.Proofs.Ytnfbabmceddciaa.G
