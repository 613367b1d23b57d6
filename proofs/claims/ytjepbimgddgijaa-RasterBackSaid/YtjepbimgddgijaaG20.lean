/- Contracts of functions of the program, each as it is called: what it computes (.f), that it computes no less with more rounds (.mono), and that a call returns just that (.calls). No conditions but those that each contract names. Written by a program of this session (wip/gx.py over the kit's print). -/
import Derived.Test.YtjepbimgddgijaaG0
import Derived.Test.YtjepbimgddgijaaG1
import Derived.Test.YtjepbimgddgijaaG5
import Derived.Test.YtjepbimgddgijaaG6
import Derived.Test.YtjepbimgddgijaaG10
namespace Go.Proofs.Ytjepbimgddgijaa.G
open Go.RowKit Go.Proofs.YtjepbimgddgijaaW.PrintWords Go.Proofs.YtjepbimgddgijaaW.PrintLast Go.Proofs.YtjepbimgddgijaaW.PrintMore
attribute [local go_sem] max2_int min2_int max_two min_two max_three min_three max_four min_four   -- for this text's walks alone
set_option linter.unusedVariables false
set_option linter.unusedSimpArgs false


/-! ### imageeditorlaw11_RasterBack: function 10 -/
def imageeditorlaw11_RasterBack.f (k : Nat) (a0_0 : Int) (a0_1 : Int) (l0_2 : List (S26)) (a1_0 : Int) (a1_1 : Int) (a1_2 : Int) (a1_3 : Int) : Option (Bool) := (imageeditorlaw11_awake.f k).bind fun t791 => (if t791 = true then ((raster_Crop.f k a0_0 a0_1 l0_2 a1_0 a1_1 a1_2 a1_3).bind fun bt792 => (if bt792.2.2.2 = 0 then ((raster_Put.f k a0_0 a0_1 l0_2 bt792.1 bt792.2.1 bt792.2.2.1 a1_0 a1_1).bind fun bt799 => (if bt799.2.2.2 = 0 then ((imageeditorlaw11_same.f k bt799.1 bt799.2.1 bt799.2.2.1 a0_0 a0_1 l0_2).bind fun t806 => (some t806)) else (some false))) else ((imageeditorlaw11_same.f k bt792.1 bt792.2.1 bt792.2.2.1 0 0 ([] : List (S26))).bind fun t807 => (some t807)))) else (some false))
theorem imageeditorlaw11_RasterBack.mono : ∀ a0 a1 a2 a3 a4 a5 a6 k, LeO (imageeditorlaw11_RasterBack.f k a0 a1 a2 a3 a4 a5 a6) (imageeditorlaw11_RasterBack.f (k + 1) a0 a1 a2 a3 a4 a5 a6) := by
 intro a0 a1 a2 a3 a4 a5 a6 k
 unfold imageeditorlaw11_RasterBack.f
 repeat' first
   | (with_reducible exact imageeditorlaw11_awake.mono _)
   | (with_reducible exact imageeditorlaw11_same.mono _ _ _ _ _ _ _)
   | (with_reducible exact raster_Crop.mono _ _ _ _ _ _ _ _)
   | (with_reducible exact raster_Put.mono _ _ _ _ _ _ _ _ _)
   | (with_reducible exact LeO.refl _)
   | (with_reducible exact LeO.none _)
   | (with_reducible refine LeO.ite ?_ ?_)
   | (with_reducible refine LeO.bind ?_ (fun _ => ?_))
   | exact imageeditorlaw11_awake.mono _
   | exact imageeditorlaw11_same.mono _ _ _ _ _ _ _
   | exact raster_Crop.mono _ _ _ _ _ _ _ _
   | exact raster_Put.mono _ _ _ _ _ _ _ _ _
   | exact LeO.none _
   | refine LeO.ite ?_ ?_
   | refine LeO.bind ?_ (fun _ => ?_)
set_option maxHeartbeats 8000000 in
set_option maxRecDepth 100000 in
theorem imageeditorlaw11_RasterBack.callsT (k : Nat) (a0_0 : Int) (a0_1 : Int) (A0_2 : Option Addr) (c0_2 : Nat) (l0_2 : List (S26)) (a1_0 : Int) (a1_1 : Int) (a1_2 : Int) (a1_3 : Int) (r : Bool) (w : World) (hr0_2 : Kd.C k26 w A0_2 l0_2.length l0_2) (hc0_2 : l0_2.length ≤ c0_2) (hT : r = true) (h : imageeditorlaw11_RasterBack.f k a0_0 a0_1 l0_2 a1_0 a1_1 a1_2 a1_3 = some r) :
  Calls Try.prog 10 #[.agg #[.int .i64 a0_0, .int .i64 a0_1, .slice A0_2 l0_2.length c0_2], .agg #[.int .i64 a1_0, .int .i64 a1_1, .int .i64 a1_2, .int .i64 a1_3]] w fun e w' => e = .returned (.bool r) ∧ Below w.heap.size w w' := by
 have hu24 := Try.underlying24
 have hu37 := Try.underlying37
 have hu41 := Try.underlying41
 have HT := Aside0.mk hT
 clear hT
 have HR0_2 := Aside0.mk hr0_2
 have HC0_2 := Aside0.mk hc0_2
 clear hr0_2 hc0_2
 have HB := Aside0.mk (Below.refl w.heap.size w)
 have H : ((imageeditorlaw11_awake.f k).bind fun t791 => (if t791 = true then ((raster_Crop.f k a0_0 a0_1 l0_2 a1_0 a1_1 a1_2 a1_3).bind fun bt792 => (if bt792.2.2.2 = 0 then ((raster_Put.f k a0_0 a0_1 l0_2 bt792.1 bt792.2.1 bt792.2.2.1 a1_0 a1_1).bind fun bt799 => (if bt799.2.2.2 = 0 then ((imageeditorlaw11_same.f k bt799.1 bt799.2.1 bt799.2.2.1 a0_0 a0_1 l0_2).bind fun t806 => (some t806)) else (some false))) else ((imageeditorlaw11_same.f k bt792.1 bt792.2.1 bt792.2.2.1 0 0 ([] : List (S26))).bind fun t807 => (some t807)))) else (some false))) = some r := h
 clear h
 replace H := Option.bind_eq_some_iff.mp H
 obtain ⟨t791, A30, H⟩ := H
 replace H : (if t791 = true then ((raster_Crop.f k a0_0 a0_1 l0_2 a1_0 a1_1 a1_2 a1_3).bind fun bt792 => (if bt792.2.2.2 = 0 then ((raster_Put.f k a0_0 a0_1 l0_2 bt792.1 bt792.2.1 bt792.2.2.1 a1_0 a1_1).bind fun bt799 => (if bt799.2.2.2 = 0 then ((imageeditorlaw11_same.f k bt799.1 bt799.2.1 bt799.2.2.1 a0_0 a0_1 l0_2).bind fun t806 => (some t806)) else (some false))) else ((imageeditorlaw11_same.f k bt792.1 bt792.2.1 bt792.2.2.1 0 0 ([] : List (S26))).bind fun t807 => (some t807)))) else (some false)) = some r := H
 have A3 := Aside0.mk A30
 clear A30
 by_cases c4 : t791 = true
 ·subst c4
  have H1 : ((raster_Crop.f k a0_0 a0_1 l0_2 a1_0 a1_1 a1_2 a1_3).bind fun bt792 => (if bt792.2.2.2 = 0 then ((raster_Put.f k a0_0 a0_1 l0_2 bt792.1 bt792.2.1 bt792.2.2.1 a1_0 a1_1).bind fun bt799 => (if bt799.2.2.2 = 0 then ((imageeditorlaw11_same.f k bt799.1 bt799.2.1 bt799.2.2.1 a0_0 a0_1 l0_2).bind fun t806 => (some t806)) else (some false))) else ((imageeditorlaw11_same.f k bt792.1 bt792.2.1 bt792.2.2.1 0 0 ([] : List (S26))).bind fun t807 => (some t807)))) = some r := by rw [if_pos rfl] at H; exact H
  clear H
  have H := H1
  clear H1
  replace H := Option.bind_eq_some_iff.mp H
  obtain ⟨⟨t792, t793, t794, t797⟩, A50, H⟩ := H
  replace H : (if t797 = 0 then ((raster_Put.f k a0_0 a0_1 l0_2 t792 t793 t794 a1_0 a1_1).bind fun bt799 => (if bt799.2.2.2 = 0 then ((imageeditorlaw11_same.f k bt799.1 bt799.2.1 bt799.2.2.1 a0_0 a0_1 l0_2).bind fun t806 => (some t806)) else (some false))) else ((imageeditorlaw11_same.f k t792 t793 t794 0 0 ([] : List (S26))).bind fun t807 => (some t807))) = some r := H
  have A5 := Aside0.mk A50
  clear A50
  by_cases c6 : t797 = 0
  ·rw [if_pos c6] at H
   have c6b0 : (t797 == 0) = true := beq_iff_eq.mpr c6
   have c6b1 : (t797 != 0) = false := bne_eq_false_iff_eq.mpr c6
   clear c6
   replace H := Option.bind_eq_some_iff.mp H
   obtain ⟨⟨t799, t800, t801, t804⟩, A70, H⟩ := H
   replace H : (if t804 = 0 then ((imageeditorlaw11_same.f k t799 t800 t801 a0_0 a0_1 l0_2).bind fun t806 => (some t806)) else (some false)) = some r := H
   have A7 := Aside0.mk A70
   clear A70
   by_cases c8 : t804 = 0
   ·rw [if_pos c8] at H
    have c8b0 : (t804 == 0) = true := beq_iff_eq.mpr c8
    have c8b1 : (t804 != 0) = false := bne_eq_false_iff_eq.mpr c8
    clear c8
    replace H := Option.bind_eq_some_iff.mp H
    obtain ⟨t806, A90, H⟩ := H
    replace H : (some t806) = some r := H
    have A9 := Aside0.mk A90
    clear A90
    as_aux_lemma =>
     obtain rfl := Option.some.inj H
     go_enter Try.func10, Try.ntmps10
     go_wp2_with (first | ((with_reducible refine gate_dst (N := 2) rfl ?_); refine box_event ?hg (N := 2) ?hd (cs := #[.int .i64 a0_0, .int .i64 a0_1, .slice A0_2 l0_2.length c0_2]) (t := 24) ?hr ?_; (case hd => rfl); (case hg => rfl); (case hr => first | (go_simp; done) | (go_simp; rfl)); intro gb789 hg w10 hbox hb; have GW789 := zg HB hg; have GE789 := zg HB hg; have n0_ := Aside0.mk (hbox); replace HB := zb HB hb; have BK789 := n0_; clear n0_; clear hb hbox hg) | ((with_reducible refine gate_dst (N := 3) rfl ?_); refine box_event ?hg (N := 3) ?hd (cs := #[.int .i64 a1_0, .int .i64 a1_1, .int .i64 a1_2, .int .i64 a1_3]) (t := 37) ?hr ?_; (case hd => rfl); (case hg => rfl); (case hr => first | (go_simp; done) | (go_simp; rfl)); intro gb790 hg w11 hbox hb; have GW790 := zg HB hg; have GE790 := zg HB hg; have NB789_790 := zn BK789 hg; have NB790_789 := zn' BK789 hg; have n0_ := Aside0.mk (hbox); replace BK789 := zk BK789 hb; replace HB := zb HB hb; have BK790 := n0_; clear n0_; clear hb hbox hg) | ((with_reducible refine gate_callee (f := 17) rfl ?_); refine goesL_ (some 8) rfl rfl Try.func17 (by kernel_rfl) rfl #[] rfl (by (try simp only [List.map_toArray, List.map_cons, List.map_nil]); first | done | rfl | (simp only [List.length_drop, List.length_take]; rfl)) ?_; (with_reducible refine (imageeditorlaw11_awake.calls k  true _ A3.out).mono ?_); rintro e w12 ⟨rfl, hb⟩; refine ⟨_, rfl, ?_⟩; replace BK789 := zk BK789 hb; replace BK790 := zk BK790 hb; replace HB := zb HB hb; (try clear hb); (try clear hb2); (try clear hk); (try clear hi); have hnb13 := NB789_790.out; have hnc13 := NB790_789.out; obtain ⟨hcz14_0, hcz14_1, hcz14_2, hfz14_0, hfz14_1, hfz14_2⟩ := zq3 BK789; obtain ⟨hcz15_0, hcz15_1, hcz15_2, hcz15_3, hfz15_0, hfz15_1, hfz15_2, hfz15_3⟩ := zq4 BK790) | ((with_reducible refine gate_callee (f := 27) rfl ?_); refine goesL_ (some 13) rfl rfl Try.func27 (by kernel_rfl) rfl #[.agg #[.int .i64 a0_0, .int .i64 a0_1, .slice A0_2 l0_2.length c0_2], .agg #[.int .i64 a1_0, .int .i64 a1_1, .int .i64 a1_2, .int .i64 a1_3]] rfl (by (try simp only [List.map_toArray, List.map_cons, List.map_nil]); first | done | rfl | (simp only [List.length_drop, List.length_take]; rfl)) ?_; (with_reducible refine (raster_Crop.calls k a0_0 a0_1 _ _ l0_2 a1_0 a1_1 a1_2 a1_3 t792 t793 t794 t797 _ ?side1 ?side2 A5.out).mono ?_); (case side1 => repeat (first | exact (Kd.C_below HR0_2.out HB.out) | (with_reducible refine Kd.C_alloc ?_ _) | (with_reducible refine Kd.C_drewN ?_ _) | (with_reducible refine Kd.C_drew ?_))); (case side2 => exact HC0_2.out); rintro e w16 ⟨v795, rfl, ho0, hb⟩; refine ⟨_, rfl, ?_⟩; have HO796 := zl HB ho0; replace BK789 := zk BK789 hb; replace BK790 := zk BK790 hb; replace HB := zb HB hb; (try clear hb); (try clear hb2); (try clear hk); (try clear hi); (try clear ho0)) | ((with_reducible refine gate_dst (N := 5) rfl ?_); refine box_event ?hg (N := 5) ?hd (cs := #[.int .i64 0, .int .i64 0, .slice none 0 0]) (t := 24) ?hr ?_; (case hd => rfl); (case hg => rfl); (case hr => first | (go_simp; done) | (go_simp; rfl)); intro gb798 hg w17 hbox hb; have GW798 := zg HB hg; have GE798 := zg HB hg; have NB789_798 := zn BK789 hg; have NB798_789 := zn' BK789 hg; have NB790_798 := zn BK790 hg; have NB798_790 := zn' BK790 hg; have n0_ := Aside0.mk (hbox); replace HO796 := zr HO796 hb; replace BK789 := zk BK789 hb; replace BK790 := zk BK790 hb; replace HB := zb HB hb; have BK798 := n0_; clear n0_; clear hb hbox hg; have hnb18 := NB798_789.out; have hnc18 := NB789_798.out; have hnb19 := NB798_790.out; have hnc19 := NB790_798.out; obtain ⟨hcz20_0, hcz20_1, hcz20_2, hfz20_0, hfz20_1, hfz20_2⟩ := zq3 BK798; obtain ⟨Ao21, co21, eo21⟩ := Kd.R_slice HO796.out; subst eo21; obtain ⟨hcz22_0, hcz22_1, hcz22_2, hfz22_0, hfz22_1, hfz22_2⟩ := zq3 BK789; obtain ⟨hcz23_0, hcz23_1, hcz23_2, hcz23_3, hfz23_0, hfz23_1, hfz23_2, hfz23_3⟩ := zq4 BK790) | ((with_reducible refine gate_callee (f := 29) rfl ?_); refine goesL_ (some 29) rfl rfl Try.func29 (by kernel_rfl) rfl #[.agg #[.int .i64 a0_0, .int .i64 a0_1, .slice A0_2 l0_2.length c0_2], .agg #[.int .i64 t792, .int .i64 t793, .slice Ao21 t794.length co21], .agg #[.int .i64 a1_0, .int .i64 a1_1]] rfl (by (try simp only [List.map_toArray, List.map_cons, List.map_nil]); first | done | rfl | (simp only [List.length_drop, List.length_take]; rfl)) ?_; (with_reducible refine (raster_Put.calls k a0_0 a0_1 _ _ l0_2 t792 t793 _ _ t794 a1_0 a1_1 t799 t800 t801 t804 _ ?side1 ?side2 ?side3 ?side4 A7.out).mono ?_); (case side1 => exact Kd.C_below HR0_2.out (by exact zbo HB GE798)); (case side2 => exact HC0_2.out); (case side3 => refine (Kd.R_reads' (e := 26) (base := w.heap.size) (ok := fun k_ => True) (n := t794.length) (c := co21) ?_).2.2; exact (by exact zro HO796 BK798 (by decide))); (case side4 => exact (Kd.R_reads' HO796.out).2.1); rintro e w24 ⟨v802, rfl, ho0, hb⟩; refine ⟨_, rfl, ?_⟩; have n0_ := Aside0.mk (Kd.R_below (by exact zro HO796 BK798 (by decide)) hb); have n1_ := Aside0.mk (Kd.R_lower ho0 (below_size (by exact zbo HB GE798))); have n2_ := Aside0.mk (blk_below (g := gb798) (o := .cells #[.int .i64 t792, .int .i64 t793, .slice Ao21 t794.length co21] 24 (0, 0)) (by exact zp BK798 rfl) hb); have n3_ := Aside0.mk (below_step (by exact zbo HB GE798) hb); replace BK789 := zfk BK789 NB789_798 hb; replace BK790 := zfk BK790 NB790_798 hb; clear HO796; clear BK798; clear HB; have HO796 := n0_; have HO803 := n1_; have BK798 := n2_; have HB := n3_; clear n0_ n1_ n2_ n3_; (try clear hb); (try clear hb2); (try clear hk); (try clear hi); (try clear ho0); (try clear BK790); (try clear HO796); (try clear BK798)) | ((with_reducible refine gate_dst (N := 7) rfl ?_); refine box_event ?hg (N := 7) ?hd (cs := #[.int .i64 0, .int .i64 0, .slice none 0 0]) (t := 24) ?hr ?_; (case hd => rfl); (case hg => rfl); (case hr => first | (go_simp; done) | (go_simp; rfl)); intro gb805 hg w25 hbox hb; have GW805 := zg HB hg; have GE805 := zg HB hg; have NB789_805 := zn BK789 hg; have NB805_789 := zn' BK789 hg; have n0_ := Aside0.mk (hbox); replace HO803 := zr HO803 hb; replace BK789 := zk BK789 hb; replace HB := zb HB hb; have BK805 := n0_; clear n0_; clear hb hbox hg; have hnb26 := NB805_789.out; have hnc26 := NB789_805.out; obtain ⟨hcz27_0, hcz27_1, hcz27_2, hfz27_0, hfz27_1, hfz27_2⟩ := zq3 BK805; obtain ⟨Ao28, co28, eo28⟩ := Kd.R_slice HO803.out; subst eo28; obtain ⟨hcz29_0, hcz29_1, hcz29_2, hfz29_0, hfz29_1, hfz29_2⟩ := zq3 BK789) | (go_at_call 20; (with_reducible refine (imageeditorlaw11_same.calls k t799 t800 _ _ t801 a0_0 a0_1 _ _ l0_2 t806 _ ?side1 ?side2 ?side3 ?side4 A9.out).mono ?_); (case side1 => refine (Kd.R_reads' (e := 26) (base := w.heap.size) (ok := fun k_ => True) (n := t801.length) (c := co28) ?_).2.2; exact (by exact zro HO803 BK805 (by decide))); (case side2 => exact (Kd.R_reads' HO803.out).2.1); (case side3 => exact Kd.C_below HR0_2.out (by exact zbo HB GE805)); (case side4 => exact HC0_2.out); rintro e w30 ⟨rfl, hb⟩; have n0_ := Aside0.mk (Kd.R_below (by exact zro HO803 BK805 (by decide)) hb); have n1_ := Aside0.mk (blk_below (g := gb805) (o := .cells #[.int .i64 t799, .int .i64 t800, .slice Ao28 t801.length co28] 24 (0, 0)) (by exact zp BK805 rfl) hb); have n2_ := Aside0.mk (below_step (by exact zbo HB GE805) hb); replace BK789 := zfk BK789 NB789_805 hb; clear HO803; clear BK805; clear HB; have HO803 := n0_; have BK805 := n1_; have HB := n2_; clear n0_ n1_ n2_; (try clear hb); (try clear hb2); (try clear hk); (try clear hi)))
     go_ret
     exact ⟨by first | rfl | (simp [errW_none, errW_some] <;> rfl) | (simp [*, errW_none, errW_some] <;> rfl), by exact zb0 HB⟩
   ·rw [if_neg c8] at H
    have c8b0 : (t804 == 0) = false := beq_eq_false_iff_ne.mpr c8
    have c8b1 : (t804 != 0) = true := bne_iff_ne.mpr c8
    as_aux_lemma =>
     exact absurd HT.out (by rw [← Option.some.inj H]; decide)
  ·rw [if_neg c6] at H
   have c6b0 : (t797 == 0) = false := beq_eq_false_iff_ne.mpr c6
   have c6b1 : (t797 != 0) = true := bne_iff_ne.mpr c6
   replace H := Option.bind_eq_some_iff.mp H
   obtain ⟨t807, A310, H⟩ := H
   replace H : (some t807) = some r := H
   have A31 := Aside0.mk A310
   clear A310
   as_aux_lemma =>
    obtain rfl := Option.some.inj H
    go_enter Try.func10, Try.ntmps10
    go_wp2_with (first | ((with_reducible refine gate_dst (N := 2) rfl ?_); refine box_event ?hg (N := 2) ?hd (cs := #[.int .i64 a0_0, .int .i64 a0_1, .slice A0_2 l0_2.length c0_2]) (t := 24) ?hr ?_; (case hd => rfl); (case hg => rfl); (case hr => first | (go_simp; done) | (go_simp; rfl)); intro gb789 hg w32 hbox hb; have GW789 := zg HB hg; have GE789 := zg HB hg; have n0_ := Aside0.mk (hbox); replace HB := zb HB hb; have BK789 := n0_; clear n0_; clear hb hbox hg) | ((with_reducible refine gate_dst (N := 3) rfl ?_); refine box_event ?hg (N := 3) ?hd (cs := #[.int .i64 a1_0, .int .i64 a1_1, .int .i64 a1_2, .int .i64 a1_3]) (t := 37) ?hr ?_; (case hd => rfl); (case hg => rfl); (case hr => first | (go_simp; done) | (go_simp; rfl)); intro gb790 hg w33 hbox hb; have GW790 := zg HB hg; have GE790 := zg HB hg; have NB789_790 := zn BK789 hg; have NB790_789 := zn' BK789 hg; have n0_ := Aside0.mk (hbox); replace BK789 := zk BK789 hb; replace HB := zb HB hb; have BK790 := n0_; clear n0_; clear hb hbox hg) | ((with_reducible refine gate_callee (f := 17) rfl ?_); refine goesL_ (some 8) rfl rfl Try.func17 (by kernel_rfl) rfl #[] rfl (by (try simp only [List.map_toArray, List.map_cons, List.map_nil]); first | done | rfl | (simp only [List.length_drop, List.length_take]; rfl)) ?_; (with_reducible refine (imageeditorlaw11_awake.calls k  true _ A3.out).mono ?_); rintro e w34 ⟨rfl, hb⟩; refine ⟨_, rfl, ?_⟩; replace BK789 := zk BK789 hb; replace BK790 := zk BK790 hb; replace HB := zb HB hb; (try clear hb); (try clear hb2); (try clear hk); (try clear hi); have hnb35 := NB789_790.out; have hnc35 := NB790_789.out; obtain ⟨hcz36_0, hcz36_1, hcz36_2, hfz36_0, hfz36_1, hfz36_2⟩ := zq3 BK789; obtain ⟨hcz37_0, hcz37_1, hcz37_2, hcz37_3, hfz37_0, hfz37_1, hfz37_2, hfz37_3⟩ := zq4 BK790; (try clear BK789); (try clear BK790)) | ((with_reducible refine gate_callee (f := 27) rfl ?_); refine goesL_ (some 13) rfl rfl Try.func27 (by kernel_rfl) rfl #[.agg #[.int .i64 a0_0, .int .i64 a0_1, .slice A0_2 l0_2.length c0_2], .agg #[.int .i64 a1_0, .int .i64 a1_1, .int .i64 a1_2, .int .i64 a1_3]] rfl (by (try simp only [List.map_toArray, List.map_cons, List.map_nil]); first | done | rfl | (simp only [List.length_drop, List.length_take]; rfl)) ?_; (with_reducible refine (raster_Crop.calls k a0_0 a0_1 _ _ l0_2 a1_0 a1_1 a1_2 a1_3 t792 t793 t794 t797 _ ?side1 ?side2 A5.out).mono ?_); (case side1 => repeat (first | exact (Kd.C_below HR0_2.out HB.out) | (with_reducible refine Kd.C_alloc ?_ _) | (with_reducible refine Kd.C_drewN ?_ _) | (with_reducible refine Kd.C_drew ?_))); (case side2 => exact HC0_2.out); rintro e w38 ⟨v795, rfl, ho0, hb⟩; refine ⟨_, rfl, ?_⟩; have HO796 := zl HB ho0; replace HB := zb HB hb; (try clear hb); (try clear hb2); (try clear hk); (try clear hi); (try clear ho0)) | ((with_reducible refine gate_dst (N := 5) rfl ?_); refine box_event ?hg (N := 5) ?hd (cs := #[.int .i64 0, .int .i64 0, .slice none 0 0]) (t := 24) ?hr ?_; (case hd => rfl); (case hg => rfl); (case hr => first | (go_simp; done) | (go_simp; rfl)); intro gb798 hg w39 hbox hb; have GW798 := zg HB hg; have GE798 := zg HB hg; have n0_ := Aside0.mk (hbox); replace HO796 := zr HO796 hb; replace HB := zb HB hb; have BK798 := n0_; clear n0_; clear hb hbox hg; obtain ⟨hcz40_0, hcz40_1, hcz40_2, hfz40_0, hfz40_1, hfz40_2⟩ := zq3 BK798; obtain ⟨Ao41, co41, eo41⟩ := Kd.R_slice HO796.out; subst eo41) | ((with_reducible refine gate_callee (f := 20) rfl ?_); refine goesL_ (some 20) rfl rfl Try.func20 (by kernel_rfl) rfl #[.agg #[.int .i64 t792, .int .i64 t793, .slice Ao41 t794.length co41], .agg #[.int .i64 0, .int .i64 0, .slice none 0 0]] rfl (by (try simp only [List.map_toArray, List.map_cons, List.map_nil]); first | done | rfl | (simp only [List.length_drop, List.length_take]; rfl)) ?_; (refine (imageeditorlaw11_same.calls k t792 t793 _ _ t794 0 0 _ _ ([] : List (S26)) t807 _ ?side1 ?side2 ?side3 ?side4 A31.out).mono ?_); (case side1 => refine (Kd.R_reads' (e := 26) (base := w.heap.size) (ok := fun k_ => True) (n := t794.length) (c := co41) ?_).2.2; exact (by exact zro HO796 BK798 (by decide))); (case side2 => exact (Kd.R_reads' HO796.out).2.1); (case side3 => exact Kd.C_nil _ _); (case side4 => exact Nat.le_refl _); rintro e w42 ⟨rfl, hb⟩; refine ⟨_, rfl, ?_⟩; have n0_ := Aside0.mk (Kd.R_below (by exact zro HO796 BK798 (by decide)) hb); have n1_ := Aside0.mk (blk_below (g := gb798) (o := .cells #[.int .i64 t792, .int .i64 t793, .slice Ao41 t794.length co41] 24 (0, 0)) (by exact zp BK798 rfl) hb); have n2_ := Aside0.mk (below_step (by exact zbo HB GE798) hb); clear HO796; clear BK798; clear HB; have HO796 := n0_; have BK798 := n1_; have HB := n2_; clear n0_ n1_ n2_; (try clear hb); (try clear hb2); (try clear hk); (try clear hi)))
    go_ret
    exact ⟨by first | rfl | (simp [errW_none, errW_some] <;> rfl) | (simp [*, errW_none, errW_some] <;> rfl), by exact zb0 HB⟩
 ·replace c4 := Bool.eq_false_iff.mpr c4
  subst c4
  have H1 : (some false) = some r := by rw [if_neg (show ¬ (false = true) by decide)] at H; exact H
  clear H
  have H := H1
  clear H1
  as_aux_lemma =>
   exact absurd HT.out (by rw [← Option.some.inj H]; decide)

end Go.Proofs.Ytjepbimgddgijaa.G
