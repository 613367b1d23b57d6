/- Contracts of functions of the program, each as it is called: what it computes (.f), that it computes no less with more rounds (.mono), and that a call returns just that (.calls). No conditions but those that each contract names. Written by a program of this session (wip/gx.py over the kit's print). -/
import Derived.Test.YtnfbabmceddciaaG0
import Derived.Test.YtnfbabmceddciaaG9
import Derived.Test.YtnfbabmceddciaaG12
import Derived.Test.YtnfbabmceddciaaG13
import Derived.Test.YtnfbabmceddciaaG22
import Derived.Test.YtnfbabmceddciaaG28
namespace Go.Proofs.Ytnfbabmceddciaa.G
open Go.RowKit Go.Proofs.YtnfbabmceddciaaW.PrintWords Go.Proofs.YtnfbabmceddciaaW.PrintLast Go.Proofs.YtnfbabmceddciaaW.PrintMore
attribute [local go_sem] max2_int min2_int max_two min_two max_three min_three max_four min_four max_five min_five   -- for this text's walks alone
set_option linter.unusedVariables false
set_option linter.unusedSimpArgs false


/-! ### imageeditorlaw15_WarpParts: function 8 -/
def imageeditorlaw15_WarpParts.j0 : Nat → Int → Int → Bool → Int → Int → Int → Int → Int → Int → List (S48) → Int → Int → List (S48) → Option (Bool)
 | 0, _, _, _, _, _, _, _, _, _, _, _, _, _ => none
 | k + 1, x11, x13, x50, x812000, x812001, x812002, x812003, x822000, x822001, x822002, x829000, x829001, x829002 => if x50 = true then (if x13 = 0 then (if x11 = 0 then ((imageeditorlaw15_awake.f k).bind fun t829 => (some t829)) else (some false)) else ((imageeditorlaw15_awake.f k).bind fun t830 => (some t830))) else ((raster_Crop.f k x822000 x822001 x822002 x812000 x812001 x812002 x812003).bind fun bt831 => (if bt831.2.2.2 = 0 then ((imageeditorlaw15_same.f k x829000 x829001 x829002 bt831.1 bt831.2.1 bt831.2.2.1).bind fun t838 => (if t838 = true then ((imageeditorlaw15_awake.f k).bind fun t839 => (some t839)) else (some false))) else (some false)))
def imageeditorlaw15_WarpParts.f (k : Nat) (a0_0 : Int) (a0_1 : Int) (l0_2 : List (S48)) (a1_0 : Int) (a1_1 : Int) (a1_2 : Int) (l1_3 : List (S28)) (a2 : Int) (a3_0 : Int) (a3_1 : Int) (a3_2 : Int) (a3_3 : Int) : Option (Bool) := (raster_Check.f k a0_0 a0_1 l0_2).bind fun t812 => (if t812 = 0 then ((warp_Draw.f k a0_0 a0_1 l0_2 0 0 0 0 a0_0 a0_1 a1_0 a1_1 a1_2 l1_3 a2 0 0 a0_0 a0_1).bind fun bt815 => ((warp_Draw.f k a0_0 a0_1 l0_2 0 0 0 0 a0_0 a0_1 a1_0 a1_1 a1_2 l1_3 a2 a3_0 a3_1 a3_2 a3_3).bind fun bt822 => (if bt815.2.2.2 = 0 then (imageeditorlaw15_WarpParts.j0 k bt815.2.2.2 bt822.2.2.2 (bt822.2.2.2 != 0) a3_0 a3_1 a3_2 a3_3 bt815.1 bt815.2.1 bt815.2.2.1 bt822.1 bt822.2.1 bt822.2.2.1) else (imageeditorlaw15_WarpParts.j0 k bt815.2.2.2 bt822.2.2.2 true a3_0 a3_1 a3_2 a3_3 bt815.1 bt815.2.1 bt815.2.2.1 bt822.1 bt822.2.1 bt822.2.2.1)))) else ((imageeditorlaw15_awake.f k).bind fun t813 => (some t813)))
theorem imageeditorlaw15_WarpParts.mono_l : ∀ k, (∀ y0 y1 y2 y3 y4 y5 y6 y7 y8 y9 y10 y11 y12, LeO (imageeditorlaw15_WarpParts.j0 k y0 y1 y2 y3 y4 y5 y6 y7 y8 y9 y10 y11 y12) (imageeditorlaw15_WarpParts.j0 (k + 1) y0 y1 y2 y3 y4 y5 y6 y7 y8 y9 y10 y11 y12))
 | 0 => fun _ _ _ _ _ _ _ _ _ _ _ _ _ r h => by simp [imageeditorlaw15_WarpParts.j0] at h
 | k + 1 => by
  have ih0 := imageeditorlaw15_WarpParts.mono_l k
  ·intro y0 y1 y2 y3 y4 y5 y6 y7 y8 y9 y10 y11 y12
   unfold imageeditorlaw15_WarpParts.j0
   repeat' first
   | (with_reducible exact ih0 _ _ _ _ _ _ _ _ _ _ _ _ _)
   | (with_reducible exact imageeditorlaw15_awake.mono _)
   | (with_reducible exact imageeditorlaw15_same.mono _ _ _ _ _ _ _)
   | (with_reducible exact raster_Check.mono _ _ _ _)
   | (with_reducible exact raster_Crop.mono _ _ _ _ _ _ _ _)
   | (with_reducible exact warp_Draw.mono _ _ _ _ _ _ _ _ _ _ _ _ _ _ _ _ _ _ _)
   | (with_reducible exact LeO.refl _)
   | (with_reducible exact LeO.none _)
   | (with_reducible refine LeO.ite ?_ ?_)
   | (with_reducible refine LeO.bind ?_ (fun _ => ?_))
   | exact ih0 _ _ _ _ _ _ _ _ _ _ _ _ _
   | exact imageeditorlaw15_awake.mono _
   | exact imageeditorlaw15_same.mono _ _ _ _ _ _ _
   | exact raster_Check.mono _ _ _ _
   | exact raster_Crop.mono _ _ _ _ _ _ _ _
   | exact warp_Draw.mono _ _ _ _ _ _ _ _ _ _ _ _ _ _ _ _ _ _ _
   | exact LeO.none _
   | refine LeO.ite ?_ ?_
   | refine LeO.bind ?_ (fun _ => ?_)
theorem imageeditorlaw15_WarpParts.mono : ∀ a0 a1 a2 a3 a4 a5 a6 a7 a8 a9 a10 a11 k, LeO (imageeditorlaw15_WarpParts.f k a0 a1 a2 a3 a4 a5 a6 a7 a8 a9 a10 a11) (imageeditorlaw15_WarpParts.f (k + 1) a0 a1 a2 a3 a4 a5 a6 a7 a8 a9 a10 a11) := by
 intro a0 a1 a2 a3 a4 a5 a6 a7 a8 a9 a10 a11 k
 have ih0 := imageeditorlaw15_WarpParts.mono_l k
 unfold imageeditorlaw15_WarpParts.f
 repeat' first
   | (with_reducible exact ih0 _ _ _ _ _ _ _ _ _ _ _ _ _)
   | (with_reducible exact imageeditorlaw15_awake.mono _)
   | (with_reducible exact imageeditorlaw15_same.mono _ _ _ _ _ _ _)
   | (with_reducible exact raster_Check.mono _ _ _ _)
   | (with_reducible exact raster_Crop.mono _ _ _ _ _ _ _ _)
   | (with_reducible exact warp_Draw.mono _ _ _ _ _ _ _ _ _ _ _ _ _ _ _ _ _ _ _)
   | (with_reducible exact LeO.refl _)
   | (with_reducible exact LeO.none _)
   | (with_reducible refine LeO.ite ?_ ?_)
   | (with_reducible refine LeO.bind ?_ (fun _ => ?_))
   | exact ih0 _ _ _ _ _ _ _ _ _ _ _ _ _
   | exact imageeditorlaw15_awake.mono _
   | exact imageeditorlaw15_same.mono _ _ _ _ _ _ _
   | exact raster_Check.mono _ _ _ _
   | exact raster_Crop.mono _ _ _ _ _ _ _ _
   | exact warp_Draw.mono _ _ _ _ _ _ _ _ _ _ _ _ _ _ _ _ _ _ _
   | exact LeO.none _
   | refine LeO.ite ?_ ?_
   | refine LeO.bind ?_ (fun _ => ?_)
set_option maxHeartbeats 8000000 in
set_option maxRecDepth 100000 in
theorem imageeditorlaw15_WarpParts.callsT (k : Nat) (a0_0 : Int) (a0_1 : Int) (A0_2 : Option Addr) (c0_2 : Nat) (l0_2 : List (S48)) (a1_0 : Int) (a1_1 : Int) (a1_2 : Int) (A1_3 : Option Addr) (c1_3 : Nat) (l1_3 : List (S28)) (a2 : Int) (a3_0 : Int) (a3_1 : Int) (a3_2 : Int) (a3_3 : Int) (r : Bool) (w : World) (hr0_2 : Kd.C k48 w A0_2 l0_2.length l0_2) (hc0_2 : l0_2.length ≤ c0_2) (hr1_3 : Kd.C k28 w A1_3 l1_3.length l1_3) (hc1_3 : l1_3.length ≤ c1_3) (hT : r = true) (h : imageeditorlaw15_WarpParts.f k a0_0 a0_1 l0_2 a1_0 a1_1 a1_2 l1_3 a2 a3_0 a3_1 a3_2 a3_3 = some r) :
  Calls Try.prog 8 #[.agg #[.int .i64 a0_0, .int .i64 a0_1, .slice A0_2 l0_2.length c0_2], .agg #[.int .i64 a1_0, .int .i64 a1_1, .int .i64 a1_2, .slice A1_3 l1_3.length c1_3], .int .i64 a2, .agg #[.int .i64 a3_0, .int .i64 a3_1, .int .i64 a3_2, .int .i64 a3_3]] w fun e w' => e = .returned (.bool r) ∧ Below w.heap.size w w' := by
 have hu40 := Try.underlying40
 have hu24 := Try.underlying24
 have hu34 := Try.underlying34
 have hu28 := Try.underlying28
 have HT := Aside0.mk hT
 clear hT
 have HR0_2 := Aside0.mk hr0_2
 have HC0_2 := Aside0.mk hc0_2
 clear hr0_2 hc0_2
 have HR1_3 := Aside0.mk hr1_3
 have HC1_3 := Aside0.mk hc1_3
 clear hr1_3 hc1_3
 have HB := Aside0.mk (Below.refl w.heap.size w)
 have H : ((raster_Check.f k a0_0 a0_1 l0_2).bind fun t812 => (if t812 = 0 then ((warp_Draw.f k a0_0 a0_1 l0_2 0 0 0 0 a0_0 a0_1 a1_0 a1_1 a1_2 l1_3 a2 0 0 a0_0 a0_1).bind fun bt815 => ((warp_Draw.f k a0_0 a0_1 l0_2 0 0 0 0 a0_0 a0_1 a1_0 a1_1 a1_2 l1_3 a2 a3_0 a3_1 a3_2 a3_3).bind fun bt822 => (if bt815.2.2.2 = 0 then (imageeditorlaw15_WarpParts.j0 k bt815.2.2.2 bt822.2.2.2 (bt822.2.2.2 != 0) a3_0 a3_1 a3_2 a3_3 bt815.1 bt815.2.1 bt815.2.2.1 bt822.1 bt822.2.1 bt822.2.2.1) else (imageeditorlaw15_WarpParts.j0 k bt815.2.2.2 bt822.2.2.2 true a3_0 a3_1 a3_2 a3_3 bt815.1 bt815.2.1 bt815.2.2.1 bt822.1 bt822.2.1 bt822.2.2.1)))) else ((imageeditorlaw15_awake.f k).bind fun t813 => (some t813)))) = some r := h
 clear h
 replace H := Option.bind_eq_some_iff.mp H
 obtain ⟨t812, A50, H⟩ := H
 replace H : (if t812 = 0 then ((warp_Draw.f k a0_0 a0_1 l0_2 0 0 0 0 a0_0 a0_1 a1_0 a1_1 a1_2 l1_3 a2 0 0 a0_0 a0_1).bind fun bt815 => ((warp_Draw.f k a0_0 a0_1 l0_2 0 0 0 0 a0_0 a0_1 a1_0 a1_1 a1_2 l1_3 a2 a3_0 a3_1 a3_2 a3_3).bind fun bt822 => (if bt815.2.2.2 = 0 then (imageeditorlaw15_WarpParts.j0 k bt815.2.2.2 bt822.2.2.2 (bt822.2.2.2 != 0) a3_0 a3_1 a3_2 a3_3 bt815.1 bt815.2.1 bt815.2.2.1 bt822.1 bt822.2.1 bt822.2.2.1) else (imageeditorlaw15_WarpParts.j0 k bt815.2.2.2 bt822.2.2.2 true a3_0 a3_1 a3_2 a3_3 bt815.1 bt815.2.1 bt815.2.2.1 bt822.1 bt822.2.1 bt822.2.2.1)))) else ((imageeditorlaw15_awake.f k).bind fun t813 => (some t813))) = some r := H
 have A5 := Aside0.mk A50
 clear A50
 by_cases c6 : t812 = 0
 ·rw [if_pos c6] at H
  have c6b0 : (t812 == 0) = true := beq_iff_eq.mpr c6
  have c6b1 : (t812 != 0) = false := bne_eq_false_iff_eq.mpr c6
  clear c6
  replace H := Option.bind_eq_some_iff.mp H
  obtain ⟨⟨t815, t816, t817, t820⟩, A70, H⟩ := H
  replace H : ((warp_Draw.f k a0_0 a0_1 l0_2 0 0 0 0 a0_0 a0_1 a1_0 a1_1 a1_2 l1_3 a2 a3_0 a3_1 a3_2 a3_3).bind fun bt822 => (if t820 = 0 then (imageeditorlaw15_WarpParts.j0 k t820 bt822.2.2.2 (bt822.2.2.2 != 0) a3_0 a3_1 a3_2 a3_3 t815 t816 t817 bt822.1 bt822.2.1 bt822.2.2.1) else (imageeditorlaw15_WarpParts.j0 k t820 bt822.2.2.2 true a3_0 a3_1 a3_2 a3_3 t815 t816 t817 bt822.1 bt822.2.1 bt822.2.2.1))) = some r := H
  have A7 := Aside0.mk A70
  clear A70
  replace H := Option.bind_eq_some_iff.mp H
  obtain ⟨⟨t822, t823, t824, t827⟩, A80, H⟩ := H
  replace H : (if t820 = 0 then (imageeditorlaw15_WarpParts.j0 k t820 t827 (t827 != 0) a3_0 a3_1 a3_2 a3_3 t815 t816 t817 t822 t823 t824) else (imageeditorlaw15_WarpParts.j0 k t820 t827 true a3_0 a3_1 a3_2 a3_3 t815 t816 t817 t822 t823 t824)) = some r := H
  have A8 := Aside0.mk A80
  clear A80
  have HC9 := Aside0.mk H
  clear H
  go_enter Try.func8, Try.ntmps8
  go_upto_region 6 with (first | ((with_reducible refine gate_dst (N := 4) rfl ?_); refine box_event ?hg (N := 4) ?hd (cs := #[.int .i64 a0_0, .int .i64 a0_1, .slice A0_2 l0_2.length c0_2]) (t := 40) ?hr ?_; (case hd => rfl); (case hg => rfl); (case hr => first | (go_simp; done) | (go_simp; rfl)); intro gb809 hg w10 hbox hb; have GW809 := zg HB hg; have GE809 := zg HB hg; have n0_ := Aside0.mk (hbox); replace HB := zb HB hb; have BK809 := n0_; clear n0_; clear hb hbox hg) | ((with_reducible refine gate_dst (N := 5) rfl ?_); refine box_event ?hg (N := 5) ?hd (cs := #[.int .i64 a1_0, .int .i64 a1_1, .int .i64 a1_2, .slice A1_3 l1_3.length c1_3]) (t := 24) ?hr ?_; (case hd => rfl); (case hg => rfl); (case hr => first | (go_simp; done) | (go_simp; rfl)); intro gb810 hg w11 hbox hb; have GW810 := zg HB hg; have GE810 := zg HB hg; have NB809_810 := zn BK809 hg; have NB810_809 := zn' BK809 hg; have n0_ := Aside0.mk (hbox); replace BK809 := zk BK809 hb; replace HB := zb HB hb; have BK810 := n0_; clear n0_; clear hb hbox hg) | ((with_reducible refine gate_dst (N := 7) rfl ?_); refine box_event ?hg (N := 7) ?hd (cs := #[.int .i64 a3_0, .int .i64 a3_1, .int .i64 a3_2, .int .i64 a3_3]) (t := 34) ?hr ?_; (case hd => rfl); (case hg => rfl); (case hr => first | (go_simp; done) | (go_simp; rfl)); intro gb811 hg w12 hbox hb; have GW811 := zg HB hg; have GE811 := zg HB hg; have NB809_811 := zn BK809 hg; have NB811_809 := zn' BK809 hg; have NB810_811 := zn BK810 hg; have NB811_810 := zn' BK810 hg; have n0_ := Aside0.mk (hbox); replace BK809 := zk BK809 hb; replace BK810 := zk BK810 hb; replace HB := zb HB hb; have BK811 := n0_; clear n0_; clear hb hbox hg; have hnb13 := NB809_810.out; have hnc13 := NB810_809.out; have hnb14 := NB809_811.out; have hnc14 := NB811_809.out; obtain ⟨hcz15_0, hcz15_1, hcz15_2, hfz15_0, hfz15_1, hfz15_2⟩ := zq3 BK809) | ((with_reducible refine gate_callee (f := 22) rfl ?_); refine goesL_ (some 17) rfl rfl Try.func22 (by kernel_rfl) rfl #[.agg #[.int .i64 a0_0, .int .i64 a0_1, .slice A0_2 l0_2.length c0_2]] rfl (by (try simp only [List.map_toArray, List.map_cons, List.map_nil]); first | done | rfl | (simp only [List.length_drop, List.length_take]; rfl)) ?_; (with_reducible refine (raster_Check.calls k a0_0 a0_1 _ _ l0_2 t812 _ ?side1 ?side2 A5.out).mono ?_); (case side1 => repeat (first | exact (Kd.C_below HR0_2.out HB.out) | (with_reducible refine Kd.C_alloc ?_ _) | (with_reducible refine Kd.C_drewN ?_ _) | (with_reducible refine Kd.C_drew ?_))); (case side2 => exact HC0_2.out); rintro e w16 ⟨rfl, hb⟩; refine ⟨_, rfl, ?_⟩; replace BK809 := zk BK809 hb; replace BK810 := zk BK810 hb; replace BK811 := zk BK811 hb; replace HB := zb HB hb; (try clear hb); (try clear hb2); (try clear hk); (try clear hi); obtain ⟨hcz17_0, hcz17_1, hcz17_2, hfz17_0, hfz17_1, hfz17_2⟩ := zq3 BK809) | ((with_reducible refine gate_dst (N := 9) rfl ?_); refine box_event ?hg (N := 9) ?hd (cs := #[.int .i64 0, .int .i64 0, .int .i64 0, .int .i64 0]) (t := 34) ?hr ?_; (case hd => rfl); (case hg => rfl); (case hr => first | (go_simp; done) | (go_simp; rfl)); intro gb814 hg w18 hbox hb; have GW814 := zg HB hg; have GE814 := zg HB hg; have NB809_814 := zn BK809 hg; have NB814_809 := zn' BK809 hg; have NB810_814 := zn BK810 hg; have NB814_810 := zn' BK810 hg; have NB811_814 := zn BK811 hg; have NB814_811 := zn' BK811 hg; have n0_ := Aside0.mk (hbox); replace BK809 := zk BK809 hb; replace BK810 := zk BK810 hb; replace BK811 := zk BK811 hb; replace HB := zb HB hb; have BK814 := n0_; clear n0_; clear hb hbox hg; have hnb19 := NB814_809.out; have hnc19 := NB809_814.out; have hnb20 := NB814_810.out; have hnc20 := NB810_814.out; have hnb21 := NB814_811.out; have hnc21 := NB811_814.out; obtain ⟨hcz22_0, hcz22_1, hcz22_2, hcz22_3, hfz22_0, hfz22_1, hfz22_2, hfz22_3⟩ := zq4 BK814; obtain ⟨hcz23_0, hcz23_1, hcz23_2, hfz23_0, hfz23_1, hfz23_2⟩ := zq3 BK809; have hnb24 := NB810_811.out; have hnc24 := NB811_810.out; obtain ⟨hcz25_0, hcz25_1, hcz25_2, hcz25_3, hfz25_0, hfz25_1, hfz25_2, hfz25_3⟩ := zq4 BK810) | ((with_reducible refine gate_callee (f := 19) rfl ?_); refine goesL_ (some 32) rfl rfl Try.func19 (by kernel_rfl) rfl #[.agg #[.int .i64 a0_0, .int .i64 a0_1, .slice A0_2 l0_2.length c0_2], .agg #[.int .i64 0, .int .i64 0], .agg #[.int .i64 0, .int .i64 0, .int .i64 a0_0, .int .i64 a0_1], .agg #[.int .i64 a1_0, .int .i64 a1_1, .int .i64 a1_2, .slice A1_3 l1_3.length c1_3], .int .i64 a2, .agg #[.int .i64 0, .int .i64 0, .int .i64 a0_0, .int .i64 a0_1]] rfl (by (try simp only [List.map_toArray, List.map_cons, List.map_nil]); first | done | rfl | (simp only [List.length_drop, List.length_take]; rfl)) ?_; (with_reducible refine (warp_Draw.calls k a0_0 a0_1 _ _ l0_2 0 0 0 0 a0_0 a0_1 a1_0 a1_1 a1_2 _ _ l1_3 a2 0 0 a0_0 a0_1 t815 t816 t817 t820 _ ?side1 ?side2 ?side3 ?side4 A7.out).mono ?_); (case side1 => exact Kd.C_below HR0_2.out (by exact zbo HB GE814)); (case side2 => exact HC0_2.out); (case side3 => exact Kd.C_below HR1_3.out (by exact zbo HB GE814)); (case side4 => exact HC1_3.out); rintro e w26 ⟨v818, rfl, ho0, hb⟩; refine ⟨_, rfl, ?_⟩; have n0_ := Aside0.mk (Kd.R_lower ho0 (below_size (by exact zbo HB GE814))); have n1_ := Aside0.mk (blk_below (g := gb814) (o := .cells #[.int .i64 0, .int .i64 0, .int .i64 a0_0, .int .i64 a0_1] 34 (0, 0)) (by exact zp BK814 rfl) hb); have n2_ := Aside0.mk (below_step (by exact zbo HB GE814) hb); replace BK809 := zfk BK809 NB809_814 hb; replace BK810 := zfk BK810 NB810_814 hb; replace BK811 := zfk BK811 NB811_814 hb; clear BK814; clear HB; have HO819 := n0_; have BK814 := n1_; have HB := n2_; clear n0_ n1_ n2_; (try clear hb); (try clear hb2); (try clear hk); (try clear hi); (try clear ho0)) | ((with_reducible refine gate_dst (N := 10) rfl ?_); refine box_event ?hg (N := 10) ?hd (cs := #[.int .i64 0, .int .i64 0, .slice none 0 0]) (t := 40) ?hr ?_; (case hd => rfl); (case hg => rfl); (case hr => first | (go_simp; done) | (go_simp; rfl)); intro gb821 hg w27 hbox hb; have GW821 := zg HB hg; have GE821 := zg HB hg; have NB809_821 := zn BK809 hg; have NB821_809 := zn' BK809 hg; have NB810_821 := zn BK810 hg; have NB821_810 := zn' BK810 hg; have NB811_821 := zn BK811 hg; have NB821_811 := zn' BK811 hg; have NB814_821 := zn BK814 hg; have NB821_814 := zn' BK814 hg; have n0_ := Aside0.mk (hbox); replace HO819 := zr HO819 hb; replace BK809 := zk BK809 hb; replace BK810 := zk BK810 hb; replace BK811 := zk BK811 hb; replace BK814 := zk BK814 hb; replace HB := zb HB hb; have BK821 := n0_; clear n0_; clear hb hbox hg; have hnb28 := NB821_809.out; have hnc28 := NB809_821.out; have hnb29 := NB821_810.out; have hnc29 := NB810_821.out; have hnb30 := NB821_811.out; have hnc30 := NB811_821.out; have hnb31 := NB821_814.out; have hnc31 := NB814_821.out; obtain ⟨hcz32_0, hcz32_1, hcz32_2, hfz32_0, hfz32_1, hfz32_2⟩ := zq3 BK821; obtain ⟨Ao33, co33, eo33⟩ := Kd.R_slice HO819.out; subst eo33; obtain ⟨hcz34_0, hcz34_1, hcz34_2, hfz34_0, hfz34_1, hfz34_2⟩ := zq3 BK809; obtain ⟨hcz35_0, hcz35_1, hcz35_2, hcz35_3, hfz35_0, hfz35_1, hfz35_2, hfz35_3⟩ := zq4 BK814; obtain ⟨hcz36_0, hcz36_1, hcz36_2, hcz36_3, hfz36_0, hfz36_1, hfz36_2, hfz36_3⟩ := zq4 BK810; obtain ⟨hcz37_0, hcz37_1, hcz37_2, hcz37_3, hfz37_0, hfz37_1, hfz37_2, hfz37_3⟩ := zq4 BK811) | ((with_reducible refine gate_callee (f := 19) rfl ?_); refine goesL_ (some 42) rfl rfl Try.func19 (by kernel_rfl) rfl #[.agg #[.int .i64 a0_0, .int .i64 a0_1, .slice A0_2 l0_2.length c0_2], .agg #[.int .i64 0, .int .i64 0], .agg #[.int .i64 0, .int .i64 0, .int .i64 a0_0, .int .i64 a0_1], .agg #[.int .i64 a1_0, .int .i64 a1_1, .int .i64 a1_2, .slice A1_3 l1_3.length c1_3], .int .i64 a2, .agg #[.int .i64 a3_0, .int .i64 a3_1, .int .i64 a3_2, .int .i64 a3_3]] rfl (by (try simp only [List.map_toArray, List.map_cons, List.map_nil]); first | done | rfl | (simp only [List.length_drop, List.length_take]; rfl)) ?_; (with_reducible refine (warp_Draw.calls k a0_0 a0_1 _ _ l0_2 0 0 0 0 a0_0 a0_1 a1_0 a1_1 a1_2 _ _ l1_3 a2 a3_0 a3_1 a3_2 a3_3 t822 t823 t824 t827 _ ?side1 ?side2 ?side3 ?side4 A8.out).mono ?_); (case side1 => exact Kd.C_below HR0_2.out (by exact zbo HB GE821)); (case side2 => exact HC0_2.out); (case side3 => exact Kd.C_below HR1_3.out (by exact zbo HB GE821)); (case side4 => exact HC1_3.out); rintro e w38 ⟨v825, rfl, ho0, hb⟩; refine ⟨_, rfl, ?_⟩; have n0_ := Aside0.mk (Kd.R_below (by exact zro HO819 BK821 (by decide)) hb); have n1_ := Aside0.mk (Kd.R_lower ho0 (below_size (by exact zbo HB GE821))); have n2_ := Aside0.mk (blk_below (g := gb821) (o := .cells #[.int .i64 t815, .int .i64 t816, .slice Ao33 t817.length co33] 40 (0, 0)) (by exact zp BK821 rfl) hb); have n3_ := Aside0.mk (below_step (by exact zbo HB GE821) hb); replace BK809 := zfk BK809 NB809_821 hb; replace BK810 := zfk BK810 NB810_821 hb; replace BK811 := zfk BK811 NB811_821 hb; replace BK814 := zfk BK814 NB814_821 hb; clear HO819; clear BK821; clear HB; have HO819 := n0_; have HO826 := n1_; have BK821 := n2_; have HB := n3_; clear n0_ n1_ n2_ n3_; (try clear hb); (try clear hb2); (try clear hk); (try clear hi); (try clear ho0); (try clear BK809); (try clear BK810); (try clear BK814)) | ((with_reducible refine gate_dst (N := 12) rfl ?_); refine box_event ?hg (N := 12) ?hd (cs := #[.int .i64 0, .int .i64 0, .slice none 0 0]) (t := 40) ?hr ?_; (case hd => rfl); (case hg => rfl); (case hr => first | (go_simp; done) | (go_simp; rfl)); intro gb828 hg w39 hbox hb; have GW828 := zg HB hg; have GE828 := zg HB hg; have NB811_828 := zn BK811 hg; have NB828_811 := zn' BK811 hg; have NB821_828 := zn BK821 hg; have NB828_821 := zn' BK821 hg; have n0_ := Aside0.mk (hbox); replace HO819 := zr HO819 hb; replace HO826 := zr HO826 hb; replace BK811 := zk BK811 hb; replace BK821 := zk BK821 hb; replace HB := zb HB hb; have BK828 := n0_; clear n0_; clear hb hbox hg; have hnb40 := NB828_811.out; have hnc40 := NB811_828.out; have hnb41 := NB828_821.out; have hnc41 := NB821_828.out; obtain ⟨hcz42_0, hcz42_1, hcz42_2, hfz42_0, hfz42_1, hfz42_2⟩ := zq3 BK828; obtain ⟨Ao43, co43, eo43⟩ := Kd.R_slice HO826.out; subst eo43))
  (try simp only [Act.put, sA, sB, sC])
  go_cut [50] (fun v50 wc => ∃ (kq : Nat) (x50_8 : Bool), v50 = .bool x50_8 ∧ Aside0 (imageeditorlaw15_WarpParts.j0 kq t820 t827 x50_8 a3_0 a3_1 a3_2 a3_3 t815 t816 t817 t822 t823 t824 = some r) ∧ Aside0 (kq ≤ k) ∧ Aside0 (Kd.R k48 48 wc w.heap.size (fun _ => True) (.slice Ao33 t817.length co33) t817) ∧ Aside0 (Kd.R k48 48 wc w.heap.size (fun _ => True) (.slice Ao43 t824.length co43) t824) ∧ Aside0 (wc.heap[gb811]? = some (.cells #[.int .i64 a3_0, .int .i64 a3_1, .int .i64 a3_2, .int .i64 a3_3] 34 (0, 0))) ∧ Aside0 (wc.heap[gb821]? = some (.cells #[.int .i64 t815, .int .i64 t816, (.slice Ao33 t817.length co33)] 40 (0, 0))) ∧ Aside0 (wc.heap[gb828]? = some (.cells #[.int .i64 t822, .int .i64 t823, (.slice Ao43 t824.length co43)] 40 (0, 0))) ∧ Aside0 (Below w.heap.size w wc))
  case first =>
   have H := HC9.out
   clear HC9
   by_cases c44 : t820 = 0
   ·rw [if_pos c44] at H
    have c44b0 : (t820 == 0) = true := beq_iff_eq.mpr c44
    have c44b1 : (t820 != 0) = false := bne_eq_false_iff_eq.mpr c44
    clear c44
    (first | rw [c44b0] | (simp only [i64_w, i32_w]; rw [c44b0]) | skip)
    as_aux_lemma =>
     have H' := Aside0.mk H
     clear H
     go_wp2
     go_meet
     case rel => exact ⟨_, ((t827 != 0)), (by first | rfl | (simp; done) | (simp [*]; done)), H', ⟨by first | omega | exact Nat.le_refl _⟩, ⟨by exact zro HO819 BK828 (by decide)⟩, ⟨by exact zro HO826 BK828 (by decide)⟩, ⟨by exact zf BK811 NB811_828⟩, ⟨by exact zf BK821 NB821_828⟩, ⟨by exact zp BK828 rfl⟩, ⟨by exact zbo HB GE828⟩⟩
   ·rw [if_neg c44] at H
    have c44b0 : (t820 == 0) = false := beq_eq_false_iff_ne.mpr c44
    have c44b1 : (t820 != 0) = true := bne_iff_ne.mpr c44
    (first | rw [c44b0] | (simp only [i64_w, i32_w]; rw [c44b0]) | skip)
    as_aux_lemma =>
     have H' := Aside0.mk H
     clear H
     go_wp2
     go_meet
     case rel => exact ⟨_, (true), (by first | rfl | (simp; done) | (simp [*]; done)), H', ⟨by first | omega | exact Nat.le_refl _⟩, ⟨by exact zro HO819 BK828 (by decide)⟩, ⟨by exact zro HO826 BK828 (by decide)⟩, ⟨by exact zf BK811 NB811_828⟩, ⟨by exact zf BK821 NB821_828⟩, ⟨by exact zp BK828 rfl⟩, ⟨by exact zbo HB GE828⟩⟩
  case rest =>
   clear HC9
   try clear c1
   try clear c2
   try clear p2
   try clear c3
   try clear q3
   try clear c4
   try clear q4
   try clear c6
   try clear c6b0
   try clear c6b1
   try clear c8
   try clear c13
   try clear c14
   try clear c19
   try clear c20
   try clear c21
   try clear c22
   try clear c24
   try clear c28
   try clear c29
   try clear c30
   try clear c31
   try clear c40
   try clear c41
   try clear c44
   try clear c44b0
   try clear c44b1
   try clear hcz15_0
   try clear hcz15_1
   try clear hcz15_2
   try clear hcz17_0
   try clear hcz17_1
   try clear hcz17_2
   try clear hcz22_0
   try clear hcz22_1
   try clear hcz22_2
   try clear hcz22_3
   try clear hcz23_0
   try clear hcz23_1
   try clear hcz23_2
   try clear hcz25_0
   try clear hcz25_1
   try clear hcz25_2
   try clear hcz25_3
   try clear hcz32_0
   try clear hcz32_1
   try clear hcz32_2
   try clear hcz34_0
   try clear hcz34_1
   try clear hcz34_2
   try clear hcz35_0
   try clear hcz35_1
   try clear hcz35_2
   try clear hcz35_3
   try clear hcz36_0
   try clear hcz36_1
   try clear hcz36_2
   try clear hcz36_3
   try clear hcz37_0
   try clear hcz37_1
   try clear hcz37_2
   try clear hcz37_3
   try clear hcz42_0
   try clear hcz42_1
   try clear hcz42_2
   try clear hfz15_0
   try clear hfz15_1
   try clear hfz15_2
   try clear hfz17_0
   try clear hfz17_1
   try clear hfz17_2
   try clear hfz22_0
   try clear hfz22_1
   try clear hfz22_2
   try clear hfz22_3
   try clear hfz23_0
   try clear hfz23_1
   try clear hfz23_2
   try clear hfz25_0
   try clear hfz25_1
   try clear hfz25_2
   try clear hfz25_3
   try clear hfz32_0
   try clear hfz32_1
   try clear hfz32_2
   try clear hfz34_0
   try clear hfz34_1
   try clear hfz34_2
   try clear hfz35_0
   try clear hfz35_1
   try clear hfz35_2
   try clear hfz35_3
   try clear hfz36_0
   try clear hfz36_1
   try clear hfz36_2
   try clear hfz36_3
   try clear hfz37_0
   try clear hfz37_1
   try clear hfz37_2
   try clear hfz37_3
   try clear hfz42_0
   try clear hfz42_1
   try clear hfz42_2
   obtain ⟨kq, x50_8, rfl, HA, HJ8, HO_822002, HO_829002, BK811, BK821, BK828, HB⟩ := hcut
   cases kq with
   | zero => exact absurd HA.out (by simp [imageeditorlaw15_WarpParts.j0])
   | succ kj8 =>
    have H := HA.out
    clear HA
    simp only [imageeditorlaw15_WarpParts.j0] at H
    by_cases c45 : x50_8 = true
    ·subst c45
     have H1 : (if t827 = 0 then (if t820 = 0 then ((imageeditorlaw15_awake.f kj8).bind fun t829 => (some t829)) else (some false)) else ((imageeditorlaw15_awake.f kj8).bind fun t830 => (some t830))) = some r := by rw [if_pos rfl] at H; exact H
     clear H
     have H := H1
     clear H1
     by_cases c46 : t827 = 0
     ·rw [if_pos c46] at H
      have c46b0 : (t827 == 0) = true := beq_iff_eq.mpr c46
      have c46b1 : (t827 != 0) = false := bne_eq_false_iff_eq.mpr c46
      clear c46
      by_cases c47 : t820 = 0
      ·rw [if_pos c47] at H
       have c47b0 : (t820 == 0) = true := beq_iff_eq.mpr c47
       have c47b1 : (t820 != 0) = false := bne_eq_false_iff_eq.mpr c47
       clear c47
       replace H := Option.bind_eq_some_iff.mp H
       obtain ⟨t829, A480, H⟩ := H
       replace H : (some t829) = some r := H
       have A48 := Aside0.mk A480
       clear A480
       as_aux_lemma =>
        obtain rfl := Option.some.inj H
        (try clear HO_822002)
        (try clear HO_829002)
        (try clear BK811)
        (try clear BK821)
        (try clear BK828)
        go_wp2_with (first | (go_at_call 16; (with_reducible refine (imageeditorlaw15_awake.calls kj8  t829 _ A48.out).mono ?_); rintro e w49 ⟨rfl, hb⟩; replace HB := zb HB hb; (try clear hb); (try clear hb2); (try clear hk); (try clear hi)))
        go_ret
        exact ⟨by first | rfl | (simp [errW_none, errW_some] <;> rfl) | (simp [*, errW_none, errW_some] <;> rfl), by exact zb0 HB⟩
      ·rw [if_neg c47] at H
       have c47b0 : (t820 == 0) = false := beq_eq_false_iff_ne.mpr c47
       have c47b1 : (t820 != 0) = true := bne_iff_ne.mpr c47
       as_aux_lemma =>
        exact absurd HT.out (by rw [← Option.some.inj H]; decide)
     ·rw [if_neg c46] at H
      have c46b0 : (t827 == 0) = false := beq_eq_false_iff_ne.mpr c46
      have c46b1 : (t827 != 0) = true := bne_iff_ne.mpr c46
      replace H := Option.bind_eq_some_iff.mp H
      obtain ⟨t830, A500, H⟩ := H
      replace H : (some t830) = some r := H
      have A50 := Aside0.mk A500
      clear A500
      as_aux_lemma =>
       obtain rfl := Option.some.inj H
       (try clear HO_822002)
       (try clear HO_829002)
       (try clear BK811)
       (try clear BK821)
       (try clear BK828)
       go_wp2_with (first | (go_at_call 16; (with_reducible refine (imageeditorlaw15_awake.calls kj8  t830 _ A50.out).mono ?_); rintro e w51 ⟨rfl, hb⟩; replace HB := zb HB hb; (try clear hb); (try clear hb2); (try clear hk); (try clear hi)))
       go_ret
       exact ⟨by first | rfl | (simp [errW_none, errW_some] <;> rfl) | (simp [*, errW_none, errW_some] <;> rfl), by exact zb0 HB⟩
    ·replace c45 := Bool.eq_false_iff.mpr c45
     subst c45
     have H1 : ((raster_Crop.f kj8 t815 t816 t817 a3_0 a3_1 a3_2 a3_3).bind fun bt831 => (if bt831.2.2.2 = 0 then ((imageeditorlaw15_same.f kj8 t822 t823 t824 bt831.1 bt831.2.1 bt831.2.2.1).bind fun t838 => (if t838 = true then ((imageeditorlaw15_awake.f kj8).bind fun t839 => (some t839)) else (some false))) else (some false))) = some r := by rw [if_neg (show ¬ (false = true) by decide)] at H; exact H
     clear H
     have H := H1
     clear H1
     replace H := Option.bind_eq_some_iff.mp H
     obtain ⟨⟨t831, t832, t833, t836⟩, A520, H⟩ := H
     replace H : (if t836 = 0 then ((imageeditorlaw15_same.f kj8 t822 t823 t824 t831 t832 t833).bind fun t838 => (if t838 = true then ((imageeditorlaw15_awake.f kj8).bind fun t839 => (some t839)) else (some false))) else (some false)) = some r := H
     have A52 := Aside0.mk A520
     clear A520
     by_cases c53 : t836 = 0
     ·rw [if_pos c53] at H
      have c53b0 : (t836 == 0) = true := beq_iff_eq.mpr c53
      have c53b1 : (t836 != 0) = false := bne_eq_false_iff_eq.mpr c53
      clear c53
      replace H := Option.bind_eq_some_iff.mp H
      obtain ⟨t838, A540, H⟩ := H
      replace H : (if t838 = true then ((imageeditorlaw15_awake.f kj8).bind fun t839 => (some t839)) else (some false)) = some r := H
      have A54 := Aside0.mk A540
      clear A540
      by_cases c55 : t838 = true
      ·subst c55
       have H1 : ((imageeditorlaw15_awake.f kj8).bind fun t839 => (some t839)) = some r := by rw [if_pos rfl] at H; exact H
       clear H
       have H := H1
       clear H1
       replace H := Option.bind_eq_some_iff.mp H
       obtain ⟨t839, A560, H⟩ := H
       replace H : (some t839) = some r := H
       have A56 := Aside0.mk A560
       clear A560
       as_aux_lemma =>
        obtain rfl := Option.some.inj H
        have hnb57 := NB821_811.out
        have hnc57 := NB811_821.out
        have hnb58 := NB821_828.out
        have hnc58 := NB828_821.out
        obtain ⟨hcz59_0, hcz59_1, hcz59_2, hfz59_0, hfz59_1, hfz59_2⟩ := zq3 BK821
        have hnb60 := NB811_828.out
        have hnc60 := NB828_811.out
        obtain ⟨hcz61_0, hcz61_1, hcz61_2, hcz61_3, hfz61_0, hfz61_1, hfz61_2, hfz61_3⟩ := zq4 BK811
        (try clear BK811)
        (try clear BK821)
        go_wp2_with (first | ((with_reducible refine gate_callee (f := 24) rfl ?_); refine goesL_ (some 63) rfl rfl Try.func24 (by kernel_rfl) rfl #[.agg #[.int .i64 t815, .int .i64 t816, .slice Ao33 t817.length co33], .agg #[.int .i64 a3_0, .int .i64 a3_1, .int .i64 a3_2, .int .i64 a3_3]] rfl (by (try simp only [List.map_toArray, List.map_cons, List.map_nil]); first | done | rfl | (simp only [List.length_drop, List.length_take]; rfl)) ?_; (with_reducible refine (raster_Crop.calls kj8 t815 t816 _ _ t817 a3_0 a3_1 a3_2 a3_3 t831 t832 t833 t836 _ ?side1 ?side2 A52.out).mono ?_); (case side1 => repeat (first | exact (Kd.R_reads' HO_822002.out).2.2 | (with_reducible refine Kd.C_alloc ?_ _) | (with_reducible refine Kd.C_drewN ?_ _) | (with_reducible refine Kd.C_drew ?_))); (case side2 => exact (Kd.R_reads' HO_822002.out).2.1); rintro e w62 ⟨v834, rfl, ho0, hb⟩; refine ⟨_, rfl, ?_⟩; have HO835 := zl HB ho0; replace HO_822002 := zr HO_822002 hb; replace HO_829002 := zr HO_829002 hb; replace BK828 := zk BK828 hb; replace HB := zb HB hb; (try clear hb); (try clear hb2); (try clear hk); (try clear hi); (try clear ho0); (try clear HO_822002)) | ((with_reducible refine gate_dst (N := 14) rfl ?_); refine box_event ?hg (N := 14) ?hd (cs := #[.int .i64 0, .int .i64 0, .slice none 0 0]) (t := 40) ?hr ?_; (case hd => rfl); (case hg => rfl); (case hr => first | (go_simp; done) | (go_simp; rfl)); intro gb837 hg w63 hbox hb; have GW837 := zg HB hg; have GE837 := zg HB hg; have NB828_837 := zn BK828 hg; have NB837_828 := zn' BK828 hg; have n0_ := Aside0.mk (hbox); replace HO_829002 := zr HO_829002 hb; replace HO835 := zr HO835 hb; replace BK828 := zk BK828 hb; replace HB := zb HB hb; have BK837 := n0_; clear n0_; clear hb hbox hg; have hnb64 := NB837_828.out; have hnc64 := NB828_837.out; obtain ⟨hcz65_0, hcz65_1, hcz65_2, hfz65_0, hfz65_1, hfz65_2⟩ := zq3 BK837; obtain ⟨Ao66, co66, eo66⟩ := Kd.R_slice HO835.out; subst eo66; obtain ⟨hcz67_0, hcz67_1, hcz67_2, hfz67_0, hfz67_1, hfz67_2⟩ := zq3 BK828) | (go_at_call 21; (with_reducible refine (imageeditorlaw15_same.calls kj8 t822 t823 _ _ t824 t831 t832 _ _ t833 true _ ?side1 ?side2 ?side3 ?side4 A54.out).mono ?_); (case side1 => refine (Kd.R_reads' (e := 48) (base := w.heap.size) (ok := fun k_ => True) (n := t824.length) (c := co43) ?_).2.2; exact (by exact zro HO_829002 BK837 (by decide))); (case side2 => exact (Kd.R_reads' HO_829002.out).2.1); (case side3 => refine (Kd.R_reads' (e := 48) (base := w.heap.size) (ok := fun k_ => True) (n := t833.length) (c := co66) ?_).2.2; exact (by exact zro HO835 BK837 (by decide))); (case side4 => exact (Kd.R_reads' HO835.out).2.1); rintro e w68 ⟨rfl, hb⟩; have n0_ := Aside0.mk (Kd.R_below (by exact zro HO_829002 BK837 (by decide)) hb); have n1_ := Aside0.mk (Kd.R_below (by exact zro HO835 BK837 (by decide)) hb); have n2_ := Aside0.mk (blk_below (g := gb837) (o := .cells #[.int .i64 t831, .int .i64 t832, .slice Ao66 t833.length co66] 40 (0, 0)) (by exact zp BK837 rfl) hb); have n3_ := Aside0.mk (below_step (by exact zbo HB GE837) hb); replace BK828 := zfk BK828 NB828_837 hb; clear HO_829002; clear HO835; clear BK837; clear HB; have HO_829002 := n0_; have HO835 := n1_; have BK837 := n2_; have HB := n3_; clear n0_ n1_ n2_ n3_; (try clear hb); (try clear hb2); (try clear hk); (try clear hi); (try clear HO_829002); (try clear BK828); (try clear HO835); (try clear BK837)) | (go_at_call 16; (with_reducible refine (imageeditorlaw15_awake.calls kj8  t839 _ A56.out).mono ?_); rintro e w69 ⟨rfl, hb⟩; replace HB := zb HB hb; (try clear hb); (try clear hb2); (try clear hk); (try clear hi)))
        go_ret
        exact ⟨by first | rfl | (simp [errW_none, errW_some] <;> rfl) | (simp [*, errW_none, errW_some] <;> rfl), by exact zb0 HB⟩
      ·replace c55 := Bool.eq_false_iff.mpr c55
       subst c55
       have H1 : (some false) = some r := by rw [if_neg (show ¬ (false = true) by decide)] at H; exact H
       clear H
       have H := H1
       clear H1
       as_aux_lemma =>
        exact absurd HT.out (by rw [← Option.some.inj H]; decide)
     ·rw [if_neg c53] at H
      have c53b0 : (t836 == 0) = false := beq_eq_false_iff_ne.mpr c53
      have c53b1 : (t836 != 0) = true := bne_iff_ne.mpr c53
      as_aux_lemma =>
       exact absurd HT.out (by rw [← Option.some.inj H]; decide)
 ·rw [if_neg c6] at H
  have c6b0 : (t812 == 0) = false := beq_eq_false_iff_ne.mpr c6
  have c6b1 : (t812 != 0) = true := bne_iff_ne.mpr c6
  replace H := Option.bind_eq_some_iff.mp H
  obtain ⟨t813, A700, H⟩ := H
  replace H : (some t813) = some r := H
  have A70 := Aside0.mk A700
  clear A700
  as_aux_lemma =>
   obtain rfl := Option.some.inj H
   go_enter Try.func8, Try.ntmps8
   go_wp2_with (first | ((with_reducible refine gate_dst (N := 4) rfl ?_); refine box_event ?hg (N := 4) ?hd (cs := #[.int .i64 a0_0, .int .i64 a0_1, .slice A0_2 l0_2.length c0_2]) (t := 40) ?hr ?_; (case hd => rfl); (case hg => rfl); (case hr => first | (go_simp; done) | (go_simp; rfl)); intro gb809 hg w71 hbox hb; have GW809 := zg HB hg; have GE809 := zg HB hg; have n0_ := Aside0.mk (hbox); replace HB := zb HB hb; have BK809 := n0_; clear n0_; clear hb hbox hg) | ((with_reducible refine gate_dst (N := 5) rfl ?_); refine box_event ?hg (N := 5) ?hd (cs := #[.int .i64 a1_0, .int .i64 a1_1, .int .i64 a1_2, .slice A1_3 l1_3.length c1_3]) (t := 24) ?hr ?_; (case hd => rfl); (case hg => rfl); (case hr => first | (go_simp; done) | (go_simp; rfl)); intro gb810 hg w72 hbox hb; have GW810 := zg HB hg; have GE810 := zg HB hg; have NB809_810 := zn BK809 hg; have NB810_809 := zn' BK809 hg; have n0_ := Aside0.mk (hbox); replace BK809 := zk BK809 hb; replace HB := zb HB hb; have BK810 := n0_; clear n0_; clear hb hbox hg; (try clear BK810)) | ((with_reducible refine gate_dst (N := 7) rfl ?_); refine box_event ?hg (N := 7) ?hd (cs := #[.int .i64 a3_0, .int .i64 a3_1, .int .i64 a3_2, .int .i64 a3_3]) (t := 34) ?hr ?_; (case hd => rfl); (case hg => rfl); (case hr => first | (go_simp; done) | (go_simp; rfl)); intro gb811 hg w73 hbox hb; have GW811 := zg HB hg; have GE811 := zg HB hg; have NB809_811 := zn BK809 hg; have NB811_809 := zn' BK809 hg; have n0_ := Aside0.mk (hbox); replace BK809 := zk BK809 hb; replace HB := zb HB hb; have BK811 := n0_; clear n0_; clear hb hbox hg; obtain ⟨hcz74_0, hcz74_1, hcz74_2, hfz74_0, hfz74_1, hfz74_2⟩ := zq3 BK809; (try clear BK809); (try clear BK811)) | ((with_reducible refine gate_callee (f := 22) rfl ?_); refine goesL_ (some 17) rfl rfl Try.func22 (by kernel_rfl) rfl #[.agg #[.int .i64 a0_0, .int .i64 a0_1, .slice A0_2 l0_2.length c0_2]] rfl (by (try simp only [List.map_toArray, List.map_cons, List.map_nil]); first | done | rfl | (simp only [List.length_drop, List.length_take]; rfl)) ?_; (with_reducible refine (raster_Check.calls k a0_0 a0_1 _ _ l0_2 t812 _ ?side1 ?side2 A5.out).mono ?_); (case side1 => repeat (first | exact (Kd.C_below HR0_2.out HB.out) | (with_reducible refine Kd.C_alloc ?_ _) | (with_reducible refine Kd.C_drewN ?_ _) | (with_reducible refine Kd.C_drew ?_))); (case side2 => exact HC0_2.out); rintro e w75 ⟨rfl, hb⟩; refine ⟨_, rfl, ?_⟩; replace HB := zb HB hb; (try clear hb); (try clear hb2); (try clear hk); (try clear hi)) | ((with_reducible refine gate_callee (f := 16) rfl ?_); refine goesL_ (some 19) rfl rfl Try.func16 (by kernel_rfl) rfl #[] rfl (by (try simp only [List.map_toArray, List.map_cons, List.map_nil]); first | done | rfl | (simp only [List.length_drop, List.length_take]; rfl)) ?_; (with_reducible refine (imageeditorlaw15_awake.calls k  t813 _ A70.out).mono ?_); rintro e w76 ⟨rfl, hb⟩; refine ⟨_, rfl, ?_⟩; replace HB := zb HB hb; (try clear hb); (try clear hb2); (try clear hk); (try clear hi)))
   go_ret
   exact ⟨by first | rfl | (simp [errW_none, errW_some] <;> rfl) | (simp [*, errW_none, errW_some] <;> rfl), by exact zb0 HB⟩

end Go.Proofs.Ytnfbabmceddciaa.G
