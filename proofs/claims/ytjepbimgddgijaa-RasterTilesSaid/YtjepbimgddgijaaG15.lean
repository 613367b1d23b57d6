/- Contracts of functions of the program, each as it is called: what it computes (.f), that it computes no less with more rounds (.mono), and that a call returns just that (.calls). No conditions but those that each contract names. Written by a program of this session (wip/gx.py over the kit's print). -/
import Derived.Test.YtjepbimgddgijaaG0
import Derived.Test.YtjepbimgddgijaaG1
import Derived.Test.YtjepbimgddgijaaG2
import Derived.Test.YtjepbimgddgijaaG5
import Derived.Test.YtjepbimgddgijaaG10
import Derived.Test.YtjepbimgddgijaaG11
import Derived.Test.YtjepbimgddgijaaG14
namespace Go.Proofs.Ytjepbimgddgijaa.G
open Go.RowKit Go.Proofs.YtjepbimgddgijaaW.PrintWords Go.Proofs.YtjepbimgddgijaaW.PrintLast Go.Proofs.YtjepbimgddgijaaW.PrintMore
attribute [local go_sem] max2_int min2_int max_two min_two max_three min_three max_four min_four   -- for this text's walks alone
set_option linter.unusedVariables false
set_option linter.unusedSimpArgs false


/-! ### imageeditorref11_Crop: function 28 -/
mutual
def imageeditorref11_Crop.j0 : Nat → Bool → Int → Int → List (S26) → Int → Int → Int → Int → Option (Int × Int × (List (S26)) × Int)
 | 0, _, _, _, _, _, _, _, _ => none
 | k + 1, x27, x582000, x582001, x582002, x583000, x583001, x583002, x583003 => if x27 = true then (some (0, 0, ([] : List (S26)), 15)) else ((imageeditorref02_Empty.f x583000 x583001 x583002 x583003).bind fun t586 => (if t586 = true then (some (0, 0, ([] : List (S26)), 0)) else (imageeditorref11_Crop.l0 k 0 x582000 x582001 x582002 x583000 x583001 x583002 x583003 x583002 x583003 ([] : List (S26)))))
def imageeditorref11_Crop.l0 : Nat → Int → Int → Int → List (S26) → Int → Int → Int → Int → Int → Int → List (S26) → Option (Int × Int × (List (S26)) × Int)
 | 0, _, _, _, _, _, _, _, _, _, _, _ => none
 | k + 1, x8, x582000, x582001, x582002, x583000, x583001, x583002, x583003, x588000, x588001, x588002 => if x8 < x583003 then (imageeditorref11_Crop.l1 k x8 0 x582000 x582001 x582002 x583000 x583001 x583002 x583003 x588000 x588001 x588002) else (some (x588000, x588001, x588002, 0))
def imageeditorref11_Crop.l1 : Nat → Int → Int → Int → Int → List (S26) → Int → Int → Int → Int → Int → Int → List (S26) → Option (Int × Int × (List (S26)) × Int)
 | 0, _, _, _, _, _, _, _, _, _, _, _, _ => none
 | k + 1, x8, x9, x582000, x582001, x582002, x583000, x583001, x583002, x583003, x588000, x588001, x588002 => if x9 < x583002 then ((imageeditorref11_Pick.f x582000 x582001 x582002 (wrap64 (x583000 + x9)) (wrap64 (x583001 + x8))).bind fun bt588 => (if x588002.length < 4398046511104 then (imageeditorref11_Crop.l1 k x8 (wrap64 (x9 + 1)) x582000 x582001 x582002 x583000 x583001 x583002 x583003 x588000 x588001 (x588002 ++ [(⟨bt588.1, bt588.2.1, bt588.2.2.1, bt588.2.2.2⟩ : S26)])) else (none))) else (imageeditorref11_Crop.l0 k (wrap64 (x8 + 1)) x582000 x582001 x582002 x583000 x583001 x583002 x583003 x588000 x588001 x588002)
end
def imageeditorref11_Crop.f (k : Nat) (a0_0 : Int) (a0_1 : Int) (l0_2 : List (S26)) (a1_0 : Int) (a1_1 : Int) (a1_2 : Int) (a1_3 : Int) : Option (Int × Int × (List (S26)) × Int) := (imageeditorref11_Check.f k a0_0 a0_1 l0_2).bind fun t584 => (if t584 = 0 then ((imageeditorref02_Valid.f a1_0 a1_1 a1_2 a1_3).bind fun t585 => (if t585 = true then (if a1_2 > 256 then (imageeditorref11_Crop.j0 k true a0_0 a0_1 l0_2 a1_0 a1_1 a1_2 a1_3) else (imageeditorref11_Crop.j0 k (decide (a1_3 > 256)) a0_0 a0_1 l0_2 a1_0 a1_1 a1_2 a1_3)) else (some (0, 0, ([] : List (S26)), 2)))) else (some (0, 0, ([] : List (S26)), t584)))
theorem imageeditorref11_Crop.mono_l : ∀ k, (∀ y0 y1 y2 y3 y4 y5 y6 y7, LeO (imageeditorref11_Crop.j0 k y0 y1 y2 y3 y4 y5 y6 y7) (imageeditorref11_Crop.j0 (k + 1) y0 y1 y2 y3 y4 y5 y6 y7)) ∧ (∀ y0 y1 y2 y3 y4 y5 y6 y7 y8 y9 y10, LeO (imageeditorref11_Crop.l0 k y0 y1 y2 y3 y4 y5 y6 y7 y8 y9 y10) (imageeditorref11_Crop.l0 (k + 1) y0 y1 y2 y3 y4 y5 y6 y7 y8 y9 y10)) ∧ (∀ y0 y1 y2 y3 y4 y5 y6 y7 y8 y9 y10 y11, LeO (imageeditorref11_Crop.l1 k y0 y1 y2 y3 y4 y5 y6 y7 y8 y9 y10 y11) (imageeditorref11_Crop.l1 (k + 1) y0 y1 y2 y3 y4 y5 y6 y7 y8 y9 y10 y11))
 | 0 => ⟨fun _ _ _ _ _ _ _ _ r h => by simp [imageeditorref11_Crop.j0] at h, fun _ _ _ _ _ _ _ _ _ _ _ r h => by simp [imageeditorref11_Crop.l0] at h, fun _ _ _ _ _ _ _ _ _ _ _ _ r h => by simp [imageeditorref11_Crop.l1] at h⟩
 | k + 1 => by
  obtain ⟨ih0, ih1, ih2⟩ := imageeditorref11_Crop.mono_l k
  refine ⟨?_, ?_, ?_⟩
  ·intro y0 y1 y2 y3 y4 y5 y6 y7
   unfold imageeditorref11_Crop.j0
   repeat' first
   | (with_reducible exact ih0 _ _ _ _ _ _ _ _)
   | (with_reducible exact ih1 _ _ _ _ _ _ _ _ _ _ _)
   | (with_reducible exact ih2 _ _ _ _ _ _ _ _ _ _ _ _)
   | (with_reducible exact imageeditorref11_Check.mono _ _ _ _)
   | (with_reducible exact LeO.refl _)
   | (with_reducible exact LeO.none _)
   | (with_reducible refine LeO.ite ?_ ?_)
   | (with_reducible refine LeO.bind ?_ (fun _ => ?_))
   | exact ih0 _ _ _ _ _ _ _ _
   | exact ih1 _ _ _ _ _ _ _ _ _ _ _
   | exact ih2 _ _ _ _ _ _ _ _ _ _ _ _
   | exact imageeditorref11_Check.mono _ _ _ _
   | exact LeO.none _
   | refine LeO.ite ?_ ?_
   | refine LeO.bind ?_ (fun _ => ?_)
  ·intro y0 y1 y2 y3 y4 y5 y6 y7 y8 y9 y10
   unfold imageeditorref11_Crop.l0
   repeat' first
   | (with_reducible exact ih0 _ _ _ _ _ _ _ _)
   | (with_reducible exact ih1 _ _ _ _ _ _ _ _ _ _ _)
   | (with_reducible exact ih2 _ _ _ _ _ _ _ _ _ _ _ _)
   | (with_reducible exact imageeditorref11_Check.mono _ _ _ _)
   | (with_reducible exact LeO.refl _)
   | (with_reducible exact LeO.none _)
   | (with_reducible refine LeO.ite ?_ ?_)
   | (with_reducible refine LeO.bind ?_ (fun _ => ?_))
   | exact ih0 _ _ _ _ _ _ _ _
   | exact ih1 _ _ _ _ _ _ _ _ _ _ _
   | exact ih2 _ _ _ _ _ _ _ _ _ _ _ _
   | exact imageeditorref11_Check.mono _ _ _ _
   | exact LeO.none _
   | refine LeO.ite ?_ ?_
   | refine LeO.bind ?_ (fun _ => ?_)
  ·intro y0 y1 y2 y3 y4 y5 y6 y7 y8 y9 y10 y11
   unfold imageeditorref11_Crop.l1
   repeat' first
   | (with_reducible exact ih0 _ _ _ _ _ _ _ _)
   | (with_reducible exact ih1 _ _ _ _ _ _ _ _ _ _ _)
   | (with_reducible exact ih2 _ _ _ _ _ _ _ _ _ _ _ _)
   | (with_reducible exact imageeditorref11_Check.mono _ _ _ _)
   | (with_reducible exact LeO.refl _)
   | (with_reducible exact LeO.none _)
   | (with_reducible refine LeO.ite ?_ ?_)
   | (with_reducible refine LeO.bind ?_ (fun _ => ?_))
   | exact ih0 _ _ _ _ _ _ _ _
   | exact ih1 _ _ _ _ _ _ _ _ _ _ _
   | exact ih2 _ _ _ _ _ _ _ _ _ _ _ _
   | exact imageeditorref11_Check.mono _ _ _ _
   | exact LeO.none _
   | refine LeO.ite ?_ ?_
   | refine LeO.bind ?_ (fun _ => ?_)
theorem imageeditorref11_Crop.mono : ∀ a0 a1 a2 a3 a4 a5 a6 k, LeO (imageeditorref11_Crop.f k a0 a1 a2 a3 a4 a5 a6) (imageeditorref11_Crop.f (k + 1) a0 a1 a2 a3 a4 a5 a6) := by
 intro a0 a1 a2 a3 a4 a5 a6 k
 obtain ⟨ih0, ih1, ih2⟩ := imageeditorref11_Crop.mono_l k
 unfold imageeditorref11_Crop.f
 repeat' first
   | (with_reducible exact ih0 _ _ _ _ _ _ _ _)
   | (with_reducible exact ih1 _ _ _ _ _ _ _ _ _ _ _)
   | (with_reducible exact ih2 _ _ _ _ _ _ _ _ _ _ _ _)
   | (with_reducible exact imageeditorref11_Check.mono _ _ _ _)
   | (with_reducible exact LeO.refl _)
   | (with_reducible exact LeO.none _)
   | (with_reducible refine LeO.ite ?_ ?_)
   | (with_reducible refine LeO.bind ?_ (fun _ => ?_))
   | exact ih0 _ _ _ _ _ _ _ _
   | exact ih1 _ _ _ _ _ _ _ _ _ _ _
   | exact ih2 _ _ _ _ _ _ _ _ _ _ _ _
   | exact imageeditorref11_Check.mono _ _ _ _
   | exact LeO.none _
   | refine LeO.ite ?_ ?_
   | refine LeO.bind ?_ (fun _ => ?_)
def imageeditorref11_Crop.T17 : Bool × List (List Nat × List Nat) := (true, [([], []), ([0], [0]), ([], []), ([], []), ([3], [3]), ([], []), ([4, 5], [4, 5]), ([], []), ([7], [7]), ([], []), ([8, 9], [8, 9]), ([2, 6, 10], [2, 6, 10]), ([11], [11]), ([1, 12, 11], [1, 12]), ([0, 1, 2, 3, 4, 5, 6, 7, 8, 9, 10, 11, 12, 13], []), ([14, 13, 13, 0, 1, 2, 3, 4, 5, 6, 7, 8, 9, 10, 11, 12, 13], [13, 14])])
def imageeditorref11_Crop.B17 : List Nat := [0, 1, 0, 0, 8, 0, 56, 0, 128, 0, 896, 2044, 4092, 8191, 16383, 32767]
theorem imageeditorref11_Crop.tab17 : rtab .any (opsOf Try.f28 17) = imageeditorref11_Crop.T17 := by kernel_rfl
theorem imageeditorref11_Crop.bits17 : waitsOk imageeditorref11_Crop.T17.2 imageeditorref11_Crop.B17 = true := by kernel_rfl
set_option maxHeartbeats 8000000 in
set_option maxRecDepth 100000 in
theorem imageeditorref11_Crop.calls (k : Nat) (a0_0 : Int) (a0_1 : Int) (A0_2 : Option Addr) (c0_2 : Nat) (l0_2 : List (S26)) (a1_0 : Int) (a1_1 : Int) (a1_2 : Int) (a1_3 : Int) (r1 : Int) (r2 : Int) (r3 : List (S26)) (r4 : Int) (w : World) (hr0_2 : Kd.C k26 w A0_2 l0_2.length l0_2) (hc0_2 : l0_2.length ≤ c0_2) (h : imageeditorref11_Crop.f k a0_0 a0_1 l0_2 a1_0 a1_1 a1_2 a1_3 = some (r1, r2, r3, r4)) :
  Calls Try.prog 28 #[.agg #[.int .i64 a0_0, .int .i64 a0_1, .slice A0_2 l0_2.length c0_2], .agg #[.int .i64 a1_0, .int .i64 a1_1, .int .i64 a1_2, .int .i64 a1_3]] w fun e w' => ∃ v2_ : Value, e = .returned (.tuple #[.agg #[.int .i64 r1, .int .i64 r2, v2_], .int .i64 r4]) ∧ Kd.R k26 26 w' w.heap.size (fun _ => True) v2_ r3 ∧ Below w.heap.size w w' := by
 have hu24 := Try.underlying24
 have hu37 := Try.underlying37
 have HR0_2 := Aside0.mk hr0_2
 have HC0_2 := Aside0.mk hc0_2
 clear hr0_2 hc0_2
 have HB := Aside0.mk (Below.refl w.heap.size w)
 have H : ((imageeditorref11_Check.f k a0_0 a0_1 l0_2).bind fun t584 => (if t584 = 0 then ((imageeditorref02_Valid.f a1_0 a1_1 a1_2 a1_3).bind fun t585 => (if t585 = true then (if a1_2 > 256 then (imageeditorref11_Crop.j0 k true a0_0 a0_1 l0_2 a1_0 a1_1 a1_2 a1_3) else (imageeditorref11_Crop.j0 k (decide (a1_3 > 256)) a0_0 a0_1 l0_2 a1_0 a1_1 a1_2 a1_3)) else (some (0, 0, ([] : List (S26)), 2)))) else (some (0, 0, ([] : List (S26)), t584)))) = some (r1, r2, r3, r4) := h
 clear h
 replace H := Option.bind_eq_some_iff.mp H
 obtain ⟨t584, A30, H⟩ := H
 replace H : (if t584 = 0 then ((imageeditorref02_Valid.f a1_0 a1_1 a1_2 a1_3).bind fun t585 => (if t585 = true then (if a1_2 > 256 then (imageeditorref11_Crop.j0 k true a0_0 a0_1 l0_2 a1_0 a1_1 a1_2 a1_3) else (imageeditorref11_Crop.j0 k (decide (a1_3 > 256)) a0_0 a0_1 l0_2 a1_0 a1_1 a1_2 a1_3)) else (some (0, 0, ([] : List (S26)), 2)))) else (some (0, 0, ([] : List (S26)), t584))) = some (r1, r2, r3, r4) := H
 have A3 := Aside0.mk A30
 clear A30
 by_cases c4 : t584 = 0
 ·rw [if_pos c4] at H
  have c4b0 : (t584 == 0) = true := beq_iff_eq.mpr c4
  have c4b1 : (t584 != 0) = false := bne_eq_false_iff_eq.mpr c4
  clear c4
  replace H := Option.bind_eq_some_iff.mp H
  obtain ⟨t585, A50, H⟩ := H
  replace H : (if t585 = true then (if a1_2 > 256 then (imageeditorref11_Crop.j0 k true a0_0 a0_1 l0_2 a1_0 a1_1 a1_2 a1_3) else (imageeditorref11_Crop.j0 k (decide (a1_3 > 256)) a0_0 a0_1 l0_2 a1_0 a1_1 a1_2 a1_3)) else (some (0, 0, ([] : List (S26)), 2))) = some (r1, r2, r3, r4) := H
  have A5 := Aside0.mk A50
  clear A50
  by_cases c6 : t585 = true
  ·subst c6
   have H1 : (if a1_2 > 256 then (imageeditorref11_Crop.j0 k true a0_0 a0_1 l0_2 a1_0 a1_1 a1_2 a1_3) else (imageeditorref11_Crop.j0 k (decide (a1_3 > 256)) a0_0 a0_1 l0_2 a1_0 a1_1 a1_2 a1_3)) = some (r1, r2, r3, r4) := by rw [if_pos rfl] at H; exact H
   clear H
   have H := H1
   clear H1
   have HC7 := Aside0.mk H
   clear H
   go_enter Try.func28, Try.ntmps28
   go_upto_region 6 with (first | ((with_reducible refine gate_dst (N := 2) rfl ?_); refine box_event ?hg (N := 2) ?hd (cs := #[.int .i64 a0_0, .int .i64 a0_1, .slice A0_2 l0_2.length c0_2]) (t := 24) ?hr ?_; (case hd => rfl); (case hg => rfl); (case hr => first | (go_simp; done) | (go_simp; rfl)); intro gb581 hg w8 hbox hb; have GW581 := zg HB hg; have GE581 := zg HB hg; have n0_ := Aside0.mk (hbox); replace HB := zb HB hb; have BK581 := n0_; clear n0_; clear hb hbox hg) | ((with_reducible refine gate_dst (N := 3) rfl ?_); refine box_event ?hg (N := 3) ?hd (cs := #[.int .i64 a1_0, .int .i64 a1_1, .int .i64 a1_2, .int .i64 a1_3]) (t := 37) ?hr ?_; (case hd => rfl); (case hg => rfl); (case hr => first | (go_simp; done) | (go_simp; rfl)); intro gb582 hg w9 hbox hb; have GW582 := zg HB hg; have GE582 := zg HB hg; have NB581_582 := zn BK581 hg; have NB582_581 := zn' BK581 hg; have n0_ := Aside0.mk (hbox); replace BK581 := zk BK581 hb; replace HB := zb HB hb; have BK582 := n0_; clear n0_; clear hb hbox hg) | ((with_reducible refine gate_dst (N := 4) rfl ?_); refine box_event ?hg (N := 4) ?hd (cs := #[.int .i64 0, .int .i64 0, .slice none 0 0]) (t := 24) ?hr ?_; (case hd => rfl); (case hg => rfl); (case hr => first | (go_simp; done) | (go_simp; rfl)); intro gb583 hg w10 hbox hb; have GW583 := zg HB hg; have GE583 := zg HB hg; have NB581_583 := zn BK581 hg; have NB583_581 := zn' BK581 hg; have NB582_583 := zn BK582 hg; have NB583_582 := zn' BK582 hg; have n0_ := Aside0.mk (hbox); replace BK581 := zk BK581 hb; replace BK582 := zk BK582 hb; replace HB := zb HB hb; have BK583 := n0_; clear n0_; clear hb hbox hg; obtain ⟨hcz11_0, hcz11_1, hcz11_2, hfz11_0, hfz11_1, hfz11_2⟩ := zq3 BK581) | ((with_reducible refine gate_callee (f := 19) rfl ?_); refine goesL_ (some 11) rfl rfl Try.func19 (by kernel_rfl) rfl #[.agg #[.int .i64 a0_0, .int .i64 a0_1, .slice A0_2 l0_2.length c0_2]] rfl (by (try simp only [List.map_toArray, List.map_cons, List.map_nil]); first | done | rfl | (simp only [List.length_drop, List.length_take]; rfl)) ?_; (with_reducible refine (imageeditorref11_Check.calls k a0_0 a0_1 _ _ l0_2 t584 _ ?side1 ?side2 A3.out).mono ?_); (case side1 => repeat (first | exact (Kd.C_below HR0_2.out HB.out) | (with_reducible refine Kd.C_alloc ?_ _) | (with_reducible refine Kd.C_drewN ?_ _) | (with_reducible refine Kd.C_drew ?_))); (case side2 => exact HC0_2.out); rintro e w12 ⟨rfl, hb⟩; refine ⟨_, rfl, ?_⟩; replace BK581 := zk BK581 hb; replace BK582 := zk BK582 hb; replace BK583 := zk BK583 hb; replace HB := zb HB hb; (try clear hb); (try clear hb2); (try clear hk); (try clear hi); obtain ⟨hcz13_0, hcz13_1, hcz13_2, hcz13_3, hfz13_0, hfz13_1, hfz13_2, hfz13_3⟩ := zq4 BK582) | ((with_reducible refine gate_callee (f := 48) rfl ?_); refine goesL_ (some 17) rfl rfl Try.func48 (by kernel_rfl) rfl #[.agg #[.int .i64 a1_0, .int .i64 a1_1, .int .i64 a1_2, .int .i64 a1_3]] rfl (by (try simp only [List.map_toArray, List.map_cons, List.map_nil]); first | done | rfl | (simp only [List.length_drop, List.length_take]; rfl)) ?_; (with_reducible refine (imageeditorref02_Valid.calls a1_0 a1_1 a1_2 a1_3 true _ A5.out).mono ?_); rintro e w14 ⟨rfl, hb⟩; refine ⟨_, rfl, ?_⟩; replace BK581 := zk BK581 hb; replace BK582 := zk BK582 hb; replace BK583 := zk BK583 hb; replace HB := zb HB hb; (try clear hb); (try clear hb2); (try clear hk); (try clear hi)))
   (try simp only [Act.put, sA, sB, sC])
   go_cut [27] (fun v27 wc => ∃ (kq : Nat) (x27_6 : Bool), v27 = .bool x27_6 ∧ Aside0 (imageeditorref11_Crop.j0 kq x27_6 a0_0 a0_1 l0_2 a1_0 a1_1 a1_2 a1_3 = some (r1, r2, r3, r4)) ∧ Aside0 (kq ≤ k) ∧ Aside0 (wc.heap[gb581]? = some (.cells #[.int .i64 a0_0, .int .i64 a0_1, (.slice A0_2 l0_2.length c0_2)] 24 (0, 0))) ∧ Aside0 (wc.heap[gb582]? = some (.cells #[.int .i64 a1_0, .int .i64 a1_1, .int .i64 a1_2, .int .i64 a1_3] 37 (0, 0))) ∧ Aside0 (wc.heap[gb583]? = some (.cells #[.int .i64 0, .int .i64 0, (.slice none 0 0)] 24 (0, 0))) ∧ Aside0 (Below w.heap.size w wc))
   case first =>
    have H := HC7.out
    clear HC7
    by_cases c15 : a1_2 > 256
    ·rw [if_pos c15] at H
     have c15b0 : decide (256 < a1_2) = true := decide_eq_true c15
     clear c15
     (first | rw [c15b0] | (simp only [i64_w, i32_w]; rw [c15b0]) | skip)
     have H' := Aside0.mk H
     clear H
     obtain ⟨hcz16_0, hcz16_1, hcz16_2, hcz16_3, hfz16_0, hfz16_1, hfz16_2, hfz16_3⟩ := zq4 BK582
     go_wp2
     go_meet
     case rel => exact ⟨_, (true), (by first | rfl | (simp; done) | (simp [*]; done)), H', ⟨by first | omega | exact Nat.le_refl _⟩, ⟨by exact zk0 BK581⟩, ⟨by exact zk0 BK582⟩, ⟨by exact zk0 BK583⟩, ⟨by exact zb0 HB⟩⟩
    ·rw [if_neg c15] at H
     have c15b0 : decide (256 < a1_2) = false := decide_eq_false c15
     clear c15
     (first | rw [c15b0] | (simp only [i64_w, i32_w]; rw [c15b0]) | skip)
     have H' := Aside0.mk H
     clear H
     obtain ⟨hcz17_0, hcz17_1, hcz17_2, hcz17_3, hfz17_0, hfz17_1, hfz17_2, hfz17_3⟩ := zq4 BK582
     go_wp2
     go_meet
     case rel => exact ⟨_, (decide (a1_3 > 256)), (by first | rfl | (simp; done) | (simp [*]; done)), H', ⟨by first | omega | exact Nat.le_refl _⟩, ⟨by exact zk0 BK581⟩, ⟨by exact zk0 BK582⟩, ⟨by exact zk0 BK583⟩, ⟨by exact zb0 HB⟩⟩
   case rest =>
    clear HC7
    try clear c1
    try clear c2
    try clear p2
    try clear q3
    try clear c4
    try clear c4b0
    try clear c4b1
    try clear q4
    try clear c6
    try clear c15
    try clear c15b0
    try clear hcz11_0
    try clear hcz11_1
    try clear hcz11_2
    try clear hcz13_0
    try clear hcz13_1
    try clear hcz13_2
    try clear hcz13_3
    try clear hcz16_0
    try clear hcz16_1
    try clear hcz16_2
    try clear hcz16_3
    try clear hcz17_0
    try clear hcz17_1
    try clear hcz17_2
    try clear hcz17_3
    try clear hfz11_0
    try clear hfz11_1
    try clear hfz11_2
    try clear hfz13_0
    try clear hfz13_1
    try clear hfz13_2
    try clear hfz13_3
    try clear hfz16_0
    try clear hfz16_1
    try clear hfz16_2
    try clear hfz16_3
    try clear hfz17_0
    try clear hfz17_1
    try clear hfz17_2
    try clear hfz17_3
    obtain ⟨kq, x27_6, rfl, HA, HJ6, BK581, BK582, BK583, HB⟩ := hcut
    cases kq with
    | zero => exact absurd HA.out (by simp [imageeditorref11_Crop.j0])
    | succ kj6 =>
     have H := HA.out
     clear HA
     simp only [imageeditorref11_Crop.j0] at H
     by_cases c18 : x27_6 = true
     ·subst c18
      have H1 : (some (0, 0, ([] : List (S26)), 15)) = some (r1, r2, r3, r4) := by rw [if_pos rfl] at H; exact H
      clear H
      have H := H1
      clear H1
      simp only [Option.some.injEq, Prod.mk.injEq] at H
      obtain ⟨rfl, rfl, rfl, rfl⟩ := H
      have hnb19 := NB583_581.out
      have hnc19 := NB581_583.out
      have hnb20 := NB583_582.out
      have hnc20 := NB582_583.out
      obtain ⟨hcz21_0, hcz21_1, hcz21_2, hfz21_0, hfz21_1, hfz21_2⟩ := zq3 BK583
      go_wp2
      refine bodyPost_ret (results_ct rfl _ _ gb583 24 #[.int .i64 0, .int .i64 0, .slice none 0 0] (0, 0) _ rfl (by exact zp BK583 rfl) Try.underlying24 rfl (by kernel_rfl)) rfl ?_
      exact ⟨_, by first | rfl | (simp [errW_none, errW_some] <;> rfl) | (simp [*, errW_none, errW_some] <;> rfl), by first | exact Kd.R_nil _ _ _ _ _ | exact Kd.N_nil _ _ _ _ _ | exact Kd.V_nil _ _ _ _ _ | exact Kd.Q_nil _ _ _ _ _ | exact Kd.S_nil _ _ _ _ _, by exact zbo HB GE583⟩
     ·replace c18 := Bool.eq_false_iff.mpr c18
      subst c18
      have H1 : ((imageeditorref02_Empty.f a1_0 a1_1 a1_2 a1_3).bind fun t586 => (if t586 = true then (some (0, 0, ([] : List (S26)), 0)) else (imageeditorref11_Crop.l0 kj6 0 a0_0 a0_1 l0_2 a1_0 a1_1 a1_2 a1_3 a1_2 a1_3 ([] : List (S26))))) = some (r1, r2, r3, r4) := by rw [if_neg (show ¬ (false = true) by decide)] at H; exact H
      clear H
      have H := H1
      clear H1
      replace H := Option.bind_eq_some_iff.mp H
      obtain ⟨t586, A220, H⟩ := H
      replace H : (if t586 = true then (some (0, 0, ([] : List (S26)), 0)) else (imageeditorref11_Crop.l0 kj6 0 a0_0 a0_1 l0_2 a1_0 a1_1 a1_2 a1_3 a1_2 a1_3 ([] : List (S26)))) = some (r1, r2, r3, r4) := H
      have A22 := Aside0.mk A220
      clear A220
      by_cases c23 : t586 = true
      ·subst c23
       have H1 : (some (0, 0, ([] : List (S26)), 0)) = some (r1, r2, r3, r4) := by rw [if_pos rfl] at H; exact H
       clear H
       have H := H1
       clear H1
       simp only [Option.some.injEq, Prod.mk.injEq] at H
       obtain ⟨rfl, rfl, rfl, rfl⟩ := H
       have hnb24 := NB582_581.out
       have hnc24 := NB581_582.out
       have hnb25 := NB582_583.out
       have hnc25 := NB583_582.out
       obtain ⟨hcz26_0, hcz26_1, hcz26_2, hcz26_3, hfz26_0, hfz26_1, hfz26_2, hfz26_3⟩ := zq4 BK582
       go_wp2_with (first | ((with_reducible refine gate_callee (f := 49) rfl ?_); refine goesL_ (some 30) rfl rfl Try.func49 (by kernel_rfl) rfl #[.agg #[.int .i64 a1_0, .int .i64 a1_1, .int .i64 a1_2, .int .i64 a1_3]] rfl (by (try simp only [List.map_toArray, List.map_cons, List.map_nil]); first | done | rfl | (simp only [List.length_drop, List.length_take]; rfl)) ?_; (with_reducible refine (imageeditorref02_Empty.calls a1_0 a1_1 a1_2 a1_3 true _ A22.out).mono ?_); rintro e w27 ⟨rfl, hb⟩; refine ⟨_, rfl, ?_⟩; replace BK581 := zk BK581 hb; replace BK582 := zk BK582 hb; replace BK583 := zk BK583 hb; replace HB := zb HB hb; (try clear hb); (try clear hb2); (try clear hk); (try clear hi); have hnb28 := NB583_581.out; have hnc28 := NB581_583.out; obtain ⟨hcz29_0, hcz29_1, hcz29_2, hfz29_0, hfz29_1, hfz29_2⟩ := zq3 BK583))
       refine bodyPost_ret (results_ct rfl _ _ gb583 24 #[.int .i64 0, .int .i64 0, .slice none 0 0] (0, 0) _ rfl (by exact zp BK583 rfl) Try.underlying24 rfl (by kernel_rfl)) rfl ?_
       exact ⟨_, by first | rfl | (simp [errW_none, errW_some] <;> rfl) | (simp [*, errW_none, errW_some] <;> rfl), by first | exact Kd.R_nil _ _ _ _ _ | exact Kd.N_nil _ _ _ _ _ | exact Kd.V_nil _ _ _ _ _ | exact Kd.Q_nil _ _ _ _ _ | exact Kd.S_nil _ _ _ _ _, by exact zbo HB GE583⟩
      ·replace c23 := Bool.eq_false_iff.mpr c23
       subst c23
       have H1 : (imageeditorref11_Crop.l0 kj6 0 a0_0 a0_1 l0_2 a1_0 a1_1 a1_2 a1_3 a1_2 a1_3 ([] : List (S26))) = some (r1, r2, r3, r4) := by rw [if_neg (show ¬ (false = true) by decide)] at H; exact H
       clear H
       have H := H1
       clear H1
       have H' := Aside0.mk H
       clear H
       have hnb30 := NB582_581.out
       have hnc30 := NB581_582.out
       have hnb31 := NB582_583.out
       have hnc31 := NB583_582.out
       obtain ⟨hcz32_0, hcz32_1, hcz32_2, hcz32_3, hfz32_0, hfz32_1, hfz32_2, hfz32_3⟩ := zq4 BK582
       go_wp2_with (first | ((with_reducible refine gate_callee (f := 49) rfl ?_); refine goesL_ (some 30) rfl rfl Try.func49 (by kernel_rfl) rfl #[.agg #[.int .i64 a1_0, .int .i64 a1_1, .int .i64 a1_2, .int .i64 a1_3]] rfl (by (try simp only [List.map_toArray, List.map_cons, List.map_nil]); first | done | rfl | (simp only [List.length_drop, List.length_take]; rfl)) ?_; (with_reducible refine (imageeditorref02_Empty.calls a1_0 a1_1 a1_2 a1_3 false _ A22.out).mono ?_); rintro e w33 ⟨rfl, hb⟩; refine ⟨_, rfl, ?_⟩; replace BK581 := zk BK581 hb; replace BK582 := zk BK582 hb; replace BK583 := zk BK583 hb; replace HB := zb HB hb; (try clear hb); (try clear hb2); (try clear hk); (try clear hi); obtain ⟨hcz34_0, hcz34_1, hcz34_2, hcz34_3, hfz34_0, hfz34_1, hfz34_2, hfz34_3⟩ := zq4 BK582) | ((with_reducible refine gate_dst (N := 7) rfl ?_); refine box_event ?hg (N := 7) ?hd (cs := #[.int .i64 0, .int .i64 0, .slice none 0 0]) (t := 24) ?hr ?_; (case hd => rfl); (case hg => rfl); (case hr => first | (go_simp; done) | (go_simp; rfl)); intro gb587 hg w35 hbox hb; have GW587 := zg HB hg; have GE587 := zg HB hg; have NB581_587 := zn BK581 hg; have NB587_581 := zn' BK581 hg; have NB582_587 := zn BK582 hg; have NB587_582 := zn' BK582 hg; have NB583_587 := zn BK583 hg; have NB587_583 := zn' BK583 hg; have n0_ := Aside0.mk (hbox); replace BK581 := zk BK581 hb; replace BK582 := zk BK582 hb; replace BK583 := zk BK583 hb; replace HB := zb HB hb; have BK587 := n0_; clear n0_; clear hb hbox hg; have hnb36 := NB587_581.out; have hnc36 := NB581_587.out; have hnb37 := NB587_582.out; have hnc37 := NB582_587.out; have hnb38 := NB587_583.out; have hnc38 := NB583_587.out; obtain ⟨hcz39_0, hcz39_1, hcz39_2, hfz39_0, hfz39_1, hfz39_2⟩ := zq3 BK587))
       (try simp only [Act.put, sA, sB, sC])
       go_loopg [8] kj6 (fun kq v8 w' => ∃ (x8_2 : Int) (x588002_2 : List (S26)) (u588002 : Value), v8 = .int .i64 x8_2 ∧ Aside0 (imageeditorref11_Crop.l0 kq x8_2 a0_0 a0_1 l0_2 a1_0 a1_1 a1_2 a1_3 a1_2 a1_3 x588002_2 = some (r1, r2, r3, r4)) ∧ Aside0 (kq ≤ kj6) ∧ Aside0 (Kd.R k26 26 w' w.heap.size (fun _ => True) u588002 x588002_2) ∧ Aside0 (w'.heap[gb581]? = some (.cells #[.int .i64 a0_0, .int .i64 a0_1, (.slice A0_2 l0_2.length c0_2)] 24 (0, 0))) ∧ Aside0 (w'.heap[gb582]? = some (.cells #[.int .i64 a1_0, .int .i64 a1_1, .int .i64 a1_2, .int .i64 a1_3] 37 (0, 0))) ∧ Aside0 (w'.heap[gb583]? = some (.cells #[.int .i64 0, .int .i64 0, (.slice none 0 0)] 24 (0, 0))) ∧ Aside0 (w'.heap[gb587]? = some (.cells #[.int .i64 a1_2, .int .i64 a1_3, u588002] 24 (0, 0))) ∧ Aside0 (Below w.heap.size w w'))
       case atStart => exact ⟨(0), (([] : List (S26))), (.slice none 0 0), (by first | rfl | (simp; done) | (simp [*]; done)), H', ⟨Nat.le_refl _⟩, ⟨by first | exact Kd.R_nil _ _ _ _ _ | exact Kd.N_nil _ _ _ _ _ | exact Kd.V_nil _ _ _ _ _ | exact Kd.Q_nil _ _ _ _ _ | exact Kd.S_nil _ _ _ _ _⟩, ⟨by exact zf BK581 NB581_587⟩, ⟨by exact zf BK582 NB582_587⟩, ⟨by exact zf BK583 NB583_587⟩, ⟨by exact zp BK587 rfl⟩, ⟨by exact zbo HB GE587⟩⟩
       case round =>
        clear H'
        try clear c1
        try clear c2
        try clear p2
        try clear c3
        try clear q3
        try clear c4
        try clear c4b0
        try clear c4b1
        try clear q4
        try clear c6
        try clear c15
        try clear c15b0
        try clear c18
        try clear c19
        try clear c20
        try clear c23
        try clear c24
        try clear c25
        try clear c28
        try clear c30
        try clear c31
        try clear c36
        try clear c37
        try clear c38
        try clear hcz11_0
        try clear hcz11_1
        try clear hcz11_2
        try clear hcz13_0
        try clear hcz13_1
        try clear hcz13_2
        try clear hcz13_3
        try clear hcz16_0
        try clear hcz16_1
        try clear hcz16_2
        try clear hcz16_3
        try clear hcz17_0
        try clear hcz17_1
        try clear hcz17_2
        try clear hcz17_3
        try clear hcz21_0
        try clear hcz21_1
        try clear hcz21_2
        try clear hcz26_0
        try clear hcz26_1
        try clear hcz26_2
        try clear hcz26_3
        try clear hcz29_0
        try clear hcz29_1
        try clear hcz29_2
        try clear hcz32_0
        try clear hcz32_1
        try clear hcz32_2
        try clear hcz32_3
        try clear hcz34_0
        try clear hcz34_1
        try clear hcz34_2
        try clear hcz34_3
        try clear hcz39_0
        try clear hcz39_1
        try clear hcz39_2
        try clear hfz11_0
        try clear hfz11_1
        try clear hfz11_2
        try clear hfz13_0
        try clear hfz13_1
        try clear hfz13_2
        try clear hfz13_3
        try clear hfz16_0
        try clear hfz16_1
        try clear hfz16_2
        try clear hfz16_3
        try clear hfz17_0
        try clear hfz17_1
        try clear hfz17_2
        try clear hfz17_3
        try clear hfz21_0
        try clear hfz21_1
        try clear hfz21_2
        try clear hfz26_0
        try clear hfz26_1
        try clear hfz26_2
        try clear hfz26_3
        try clear hfz29_0
        try clear hfz29_1
        try clear hfz29_2
        try clear hfz32_0
        try clear hfz32_1
        try clear hfz32_2
        try clear hfz32_3
        try clear hfz34_0
        try clear hfz34_1
        try clear hfz34_2
        try clear hfz34_3
        try clear hfz39_0
        try clear hfz39_1
        try clear hfz39_2
        try clear p2
        try clear q3
        try clear q4
        obtain ⟨x8_2, x588002_2, u588002, rfl, HA, HK2, HO_588002, BK581, BK582, BK583, BK587, HB⟩ := hrel
        cases gk with
        | zero => exact absurd HA.out (by simp [imageeditorref11_Crop.l0])
        | succ k2 =>
         have H := HA.out
         clear HA
         simp only [imageeditorref11_Crop.l0] at H
         by_cases c40 : x8_2 < a1_3
         ·rw [if_pos c40] at H
          have c40b0 : decide (x8_2 < a1_3) = true := decide_eq_true c40
          clear c40
          have H' := Aside0.mk H
          clear H
          obtain ⟨hcz41_0, hcz41_1, hcz41_2, hcz41_3, hfz41_0, hfz41_1, hfz41_2, hfz41_3⟩ := zq4 BK582
          go_wp2
          go_loopg [9] k2 (fun kq v9 w' => ∃ (x9_3 : Int) (x588002_3 : List (S26)) (u588002 : Value), v9 = .int .i64 x9_3 ∧ Aside0 (imageeditorref11_Crop.l1 kq x8_2 x9_3 a0_0 a0_1 l0_2 a1_0 a1_1 a1_2 a1_3 a1_2 a1_3 x588002_3 = some (r1, r2, r3, r4)) ∧ Aside0 (kq ≤ k2) ∧ Aside0 (Kd.R k26 26 w' w.heap.size (fun _ => True) u588002 x588002_3) ∧ Aside0 (w'.heap[gb581]? = some (.cells #[.int .i64 a0_0, .int .i64 a0_1, (.slice A0_2 l0_2.length c0_2)] 24 (0, 0))) ∧ Aside0 (w'.heap[gb582]? = some (.cells #[.int .i64 a1_0, .int .i64 a1_1, .int .i64 a1_2, .int .i64 a1_3] 37 (0, 0))) ∧ Aside0 (w'.heap[gb583]? = some (.cells #[.int .i64 0, .int .i64 0, (.slice none 0 0)] 24 (0, 0))) ∧ Aside0 (w'.heap[gb587]? = some (.cells #[.int .i64 a1_2, .int .i64 a1_3, u588002] 24 (0, 0))) ∧ Aside0 (Below w.heap.size w w'))
          case atStart => exact ⟨(0), (x588002_2), (u588002), (by first | rfl | (simp; done) | (simp [*]; done)), H', ⟨Nat.le_refl _⟩, ⟨by exact zr0 HO_588002⟩, ⟨by exact zk0 BK581⟩, ⟨by exact zk0 BK582⟩, ⟨by exact zk0 BK583⟩, ⟨by exact zk0 BK587⟩, ⟨by exact zb0 HB⟩⟩
          case round =>
           clear H'
           try clear c1
           try clear c2
           try clear p2
           try clear c3
           try clear q3
           try clear c4
           try clear c4b0
           try clear c4b1
           try clear q4
           try clear c6
           try clear c15
           try clear c15b0
           try clear c18
           try clear c19
           try clear c20
           try clear c23
           try clear c24
           try clear c25
           try clear c28
           try clear c30
           try clear c31
           try clear c36
           try clear c37
           try clear c38
           try clear c40
           try clear c40b0
           try clear hcz11_0
           try clear hcz11_1
           try clear hcz11_2
           try clear hcz13_0
           try clear hcz13_1
           try clear hcz13_2
           try clear hcz13_3
           try clear hcz16_0
           try clear hcz16_1
           try clear hcz16_2
           try clear hcz16_3
           try clear hcz17_0
           try clear hcz17_1
           try clear hcz17_2
           try clear hcz17_3
           try clear hcz21_0
           try clear hcz21_1
           try clear hcz21_2
           try clear hcz26_0
           try clear hcz26_1
           try clear hcz26_2
           try clear hcz26_3
           try clear hcz29_0
           try clear hcz29_1
           try clear hcz29_2
           try clear hcz32_0
           try clear hcz32_1
           try clear hcz32_2
           try clear hcz32_3
           try clear hcz34_0
           try clear hcz34_1
           try clear hcz34_2
           try clear hcz34_3
           try clear hcz39_0
           try clear hcz39_1
           try clear hcz39_2
           try clear hcz41_0
           try clear hcz41_1
           try clear hcz41_2
           try clear hcz41_3
           try clear hfz11_0
           try clear hfz11_1
           try clear hfz11_2
           try clear hfz13_0
           try clear hfz13_1
           try clear hfz13_2
           try clear hfz13_3
           try clear hfz16_0
           try clear hfz16_1
           try clear hfz16_2
           try clear hfz16_3
           try clear hfz17_0
           try clear hfz17_1
           try clear hfz17_2
           try clear hfz17_3
           try clear hfz21_0
           try clear hfz21_1
           try clear hfz21_2
           try clear hfz26_0
           try clear hfz26_1
           try clear hfz26_2
           try clear hfz26_3
           try clear hfz29_0
           try clear hfz29_1
           try clear hfz29_2
           try clear hfz32_0
           try clear hfz32_1
           try clear hfz32_2
           try clear hfz32_3
           try clear hfz34_0
           try clear hfz34_1
           try clear hfz34_2
           try clear hfz34_3
           try clear hfz39_0
           try clear hfz39_1
           try clear hfz39_2
           try clear hfz41_0
           try clear hfz41_1
           try clear hfz41_2
           try clear hfz41_3
           try clear p2
           try clear q3
           try clear q4
           obtain ⟨x9_3, x588002_3, u588002, rfl, HA, HK3, HO_588002, BK581, BK582, BK583, BK587, HB⟩ := hrel
           cases gk with
           | zero => exact absurd HA.out (by simp [imageeditorref11_Crop.l1])
           | succ k3 =>
            have H := HA.out
            clear HA
            simp only [imageeditorref11_Crop.l1] at H
            by_cases c42 : x9_3 < a1_2
            ·rw [if_pos c42] at H
             have c42b0 : decide (x9_3 < a1_2) = true := decide_eq_true c42
             clear c42
             replace H := Option.bind_eq_some_iff.mp H
             obtain ⟨⟨t588, t589, t590, t591⟩, A430, H⟩ := H
             replace H : (if x588002_3.length < 4398046511104 then (imageeditorref11_Crop.l1 k3 x8_2 (wrap64 (x9_3 + 1)) a0_0 a0_1 l0_2 a1_0 a1_1 a1_2 a1_3 a1_2 a1_3 (x588002_3 ++ [(⟨t588, t589, t590, t591⟩ : S26)])) else (none)) = some (r1, r2, r3, r4) := H
             have A43 := Aside0.mk A430
             clear A430
             by_cases c44 : x588002_3.length < 4398046511104
             ·rw [if_pos c44] at H
              have LMc44 := Aside0.mk c44
              clear c44
              obtain ⟨y592, hy592⟩ : ∃ y_ : List (S26), y_ = (x588002_3 ++ [(⟨t588, t589, t590, t591⟩ : S26)]) := ⟨_, rfl⟩
              replace H : (imageeditorref11_Crop.l1 k3 x8_2 (wrap64 (x9_3 + 1)) a0_0 a0_1 l0_2 a1_0 a1_1 a1_2 a1_3 a1_2 a1_3 y592) = some (r1, r2, r3, r4) := by first | (rw [hy592]; with_reducible exact H) | (have H2_ := (Option.bind_some _ _).symm.trans H; rw [hy592]; with_reducible exact H2_) | (have H2_ := (Option.bind_some _ _).symm.trans H; with_reducible exact H2_) | with_reducible exact H | (rw [hy592]; exact H) | exact H
              have Ny592 := Aside0.mk hy592
              clear hy592
              have H' := Aside0.mk H
              clear H
              have hnb45 := NB582_581.out
              have hnc45 := NB581_582.out
              have hnb46 := NB582_583.out
              have hnc46 := NB583_582.out
              have hnb47 := NB582_587.out
              have hnc47 := NB587_582.out
              obtain ⟨hcz48_0, hcz48_1, hcz48_2, hcz48_3, hfz48_0, hfz48_1, hfz48_2, hfz48_3⟩ := zq4 BK582
              try go_wp2
              replace HO_588002 := zrd HO_588002
              replace BK581 := zkd BK581
              replace BK582 := zkd BK582
              replace BK583 := zkd BK583
              replace BK587 := zkd BK587
              replace HB := zbd HB
              refine start_ (n := 16) (S := fun w' => w'.cell? ⟨gb587, 0, none⟩ = some (.int .i64 a1_2) ∧ w'.cell? ⟨gb587, 1, none⟩ = some (.int .i64 a1_3) ∧ w'.cell? ⟨gb587, 2, none⟩ = some (u588002) ∧ w'.cell? ⟨gb581, 0, none⟩ = some (.int .i64 a0_0) ∧ w'.cell? ⟨gb581, 1, none⟩ = some (.int .i64 a0_1) ∧ w'.cell? ⟨gb581, 2, none⟩ = some (.slice A0_2 l0_2.length c0_2) ∧ w'.cell? ⟨gb582, 0, none⟩ = some (.int .i64 a1_0) ∧ w'.cell? ⟨gb582, 1, none⟩ = some (.int .i64 a1_1) ∧ w'.cell? ⟨gb582, 2, none⟩ = some (.int .i64 a1_2) ∧ w'.cell? ⟨gb582, 3, none⟩ = some (.int .i64 a1_3)) (ds := [15]) (bs 16 0) (by kernel_rfl) rfl rfl ⟨(blk_cell BK587.out 0).trans rfl, (blk_cell BK587.out 1).trans rfl, (blk_cell BK587.out 2).trans rfl, (blk_cell BK581.out 0).trans rfl, (blk_cell BK581.out 1).trans rfl, (blk_cell BK581.out 2).trans rfl, (blk_cell BK582.out 0).trans rfl, (blk_cell BK582.out 1).trans rfl, (blk_cell BK582.out 2).trans rfl, (blk_cell BK582.out 3).trans rfl⟩ (fun hHeld => ?_); refine with_tabW imageeditorref11_Crop.tab17 imageeditorref11_Crop.bits17 (fun HT_ HW_ => ?_)
              generalize wr.drew = w49 at HO_588002 BK581 BK582 BK583 BK587 HB hHeld ⊢
              refine pure_ (i := 0) (N := some 49) (v := ?_) (a' := ?_) (bs 16 1) rfl rfl (any_of HT_.out (by kernel_rfl)) (fun _ _ _ h => h) (Or.inl ⟨by rfl, ?_⟩) ?_ ?_
              rotate_left
              ·intro w'
               go_simp
               with_reducible rfl
              rotate_left
              ·simp only [Act.put, sA, sB, sC, i64_w, i32_w]
               rfl
              refine pure_ (i := 3) (N := some 52) (v := ?_) (a' := ?_) (bs 16 9) rfl rfl (any_of HT_.out (by kernel_rfl)) (fun _ _ _ h => h) (Or.inl ⟨by rfl, ?_⟩) ?_ ?_
              rotate_left
              ·intro w'
               go_simp
               with_reducible rfl
              rotate_left
              ·simp only [Act.put, sA, sB, sC, i64_w, i32_w]
               rfl
              refine pure_ (i := 5) (N := some 54) (v := ?_) (a' := ?_) (bs 16 41) rfl rfl (any_of HT_.out (by kernel_rfl)) (fun _ _ _ h => h) (Or.inl ⟨by rfl, ?_⟩) ?_ ?_
              rotate_left
              ·intro w'
               go_simp
               with_reducible rfl
              rotate_left
              ·simp only [Act.put, sA, sB, sC, i64_w, i32_w]
               rfl
              refine pure_ (i := 7) (N := some 56) (v := ?_) (a' := ?_) (bs 16 169) rfl rfl (any_of HT_.out (by kernel_rfl)) (fun _ _ _ h => h) (Or.inl ⟨by rfl, ?_⟩) ?_ ?_
              rotate_left
              ·intro w'
               go_simp
               with_reducible rfl
              rotate_left
              ·simp only [Act.put, sA, sB, sC, i64_w, i32_w]
               rfl
              refine pure_ (i := 9) (N := some 58) (v := ?_) (a' := ?_) (bs 16 681) rfl rfl (any_of HT_.out (by kernel_rfl)) (fun _ _ _ h => h) (Or.inl ⟨by rfl, ?_⟩) ?_ ?_
              rotate_left
              ·intro w'
               go_simp
               with_reducible rfl
              rotate_left
              ·simp only [Act.put, sA, sB, sC, i64_w, i32_w]
               rfl
              refine take_ (i := 1) (N := some 50) (v := ?_) (a' := ?_) (bs 16 683) rfl rfl (take_ofW HT_.out HW_.out (by kernel_rfl)) (fun _ _ _ h => h) (Or.inl ⟨by rfl, ?_⟩) hHeld ?_ ?_
              rotate_left
              ·rintro w' ⟨s0, s1, s2, s3, s4, s5, s6, s7, s8, s9⟩
               go_simp
               with_reducible rfl
              rotate_left
              ·simp only [Act.put, sA, sB, sC, i64_w, i32_w]
               rfl
              refine take_ (i := 2) (N := some 51) (v := ?_) (a' := ?_) (bs 16 687) rfl rfl (take_ofW HT_.out HW_.out (by kernel_rfl)) (fun _ _ _ h => h) (Or.inl ⟨by rfl, ?_⟩) hHeld ?_ ?_
              rotate_left
              ·rintro w' ⟨s0, s1, s2, s3, s4, s5, s6, s7, s8, s9⟩
               go_simp
               with_reducible rfl
              rotate_left
              ·simp only [Act.put, sA, sB, sC, i64_w, i32_w]
               rfl
              refine take_ (i := 4) (N := some 53) (v := ?_) (a' := ?_) (bs 16 703) rfl rfl (take_ofW HT_.out HW_.out (by kernel_rfl)) (fun _ _ _ h => h) (Or.inl ⟨by rfl, ?_⟩) hHeld ?_ ?_
              rotate_left
              ·rintro w' ⟨s0, s1, s2, s3, s4, s5, s6, s7, s8, s9⟩
               go_simp
               with_reducible rfl
              rotate_left
              ·simp only [Act.put, sA, sB, sC, i64_w, i32_w]
               rfl
              refine pure_ (i := 6) (N := some 55) (v := ?_) (a' := ?_) (bs 16 767) rfl rfl (any_of HT_.out (by kernel_rfl)) (fun _ _ _ h => h) (Or.inl ⟨by rfl, ?_⟩) ?_ ?_
              rotate_left
              ·intro w'
               go_simp
               with_reducible rfl
              rotate_left
              ·simp only [Act.put, sA, sB, sC, i64_w, i32_w]
               rfl
              refine take_ (i := 8) (N := some 57) (v := ?_) (a' := ?_) (bs 16 1023) rfl rfl (take_ofW HT_.out HW_.out (by kernel_rfl)) (fun _ _ _ h => h) (Or.inl ⟨by rfl, ?_⟩) hHeld ?_ ?_
              rotate_left
              ·rintro w' ⟨s0, s1, s2, s3, s4, s5, s6, s7, s8, s9⟩
               go_simp
               with_reducible rfl
              rotate_left
              ·simp only [Act.put, sA, sB, sC, i64_w, i32_w]
               rfl
              refine pure_ (i := 10) (N := some 59) (v := ?_) (a' := ?_) (bs 16 2047) rfl rfl (any_of HT_.out (by kernel_rfl)) (fun _ _ _ h => h) (Or.inl ⟨by rfl, ?_⟩) ?_ ?_
              rotate_left
              ·intro w'
               go_simp
               with_reducible rfl
              rotate_left
              ·simp only [Act.put, sA, sB, sC, i64_w, i32_w]
               rfl
              refine one_ (i := 11) (N := some 60) (bs 16 4095) rfl rfl (one_of HT_.out (by kernel_rfl)) (by decide) (fun K hK => ?_)
              refine goes_ Try.func44 (by kernel_rfl) rfl #[.agg #[.int .i64 a0_0, .int .i64 a0_1, .slice A0_2 l0_2.length c0_2], .int .i64 (wrap64 (a1_0 + x9_3)), .int .i64 (wrap64 (a1_1 + x8_2))] (by rfl) rfl rfl (by (try simp only [List.map_toArray, List.map_cons, List.map_nil]); first | done | rfl | (simp only [List.length_drop, List.length_take]; rfl)) ?_
              with_reducible refine (imageeditorref11_Pick.calls a0_0 a0_1 _ _ l0_2 (wrap64 (a1_0 + x9_3)) (wrap64 (a1_1 + x8_2)) t588 t589 t590 t591 _ ?side1 ?side2 A43.out).mono ?_
              (case side1 => repeat (first | exact (Kd.C_below HR0_2.out HB.out) | (with_reducible refine Kd.C_alloc ?_ _) | (with_reducible refine Kd.C_drewN ?_ _) | (with_reducible refine Kd.C_drew ?_)))
              (case side2 => exact HC0_2.out)
              rintro e w50 ⟨rfl, hb⟩
              refine ⟨_, rfl, ?_⟩
              replace HO_588002 := zr HO_588002 hb
              replace BK581 := zk BK581 hb
              replace BK582 := zk BK582 hb
              replace BK583 := zk BK583 hb
              replace BK587 := zk BK587 hb
              replace HB := zb HB hb
              (try clear hb)
              (try clear hb2)
              (try clear hk)
              (try clear hi)
              refine hK.out _ _ ⟨(blk_cell BK587.out 0).trans rfl, (blk_cell BK587.out 1).trans rfl, (blk_cell BK587.out 2).trans rfl, (blk_cell BK581.out 0).trans rfl, (blk_cell BK581.out 1).trans rfl, (blk_cell BK581.out 2).trans rfl, (blk_cell BK582.out 0).trans rfl, (blk_cell BK582.out 1).trans rfl, (blk_cell BK582.out 2).trans rfl, (blk_cell BK582.out 3).trans rfl⟩ (fun hHeld => ?_)
              clear hK K
              refine norm_ (a' := ?_) ?_ ?_
              rotate_left
              ·show Act.put _ (some 60) _ = _
               simp only [Act.put, sA, sB, sC, i64_w, i32_w]
               rfl
              refine one_ (i := 12) (N := some 61) (bs 16 8191) rfl rfl (one_of HT_.out (by kernel_rfl)) (by decide) (fun K hK => ?_)
              refine value_ (w1 := ?_) (v := ?_) (by rfl) rfl ?_ ?_
              rotate_left 2
              ·go_simp
               constructor
               ·rfl
               ·rfl
              refine hK.out _ _ ⟨(blk_cell (blk_alloc BK587.out _) 0).trans rfl, (blk_cell (blk_alloc BK587.out _) 1).trans rfl, (blk_cell (blk_alloc BK587.out _) 2).trans rfl, (blk_cell (blk_alloc BK581.out _) 0).trans rfl, (blk_cell (blk_alloc BK581.out _) 1).trans rfl, (blk_cell (blk_alloc BK581.out _) 2).trans rfl, (blk_cell (blk_alloc BK582.out _) 0).trans rfl, (blk_cell (blk_alloc BK582.out _) 1).trans rfl, (blk_cell (blk_alloc BK582.out _) 2).trans rfl, (blk_cell (blk_alloc BK582.out _) 3).trans rfl⟩ (fun hHeld => ?_)
              clear hK K
              refine norm_ (a' := ?_) ?_ ?_
              rotate_left
              ·show Act.put _ (some 61) _ = _
               simp only [Act.put, sA, sB, sC, i64_w, i32_w]
               rfl
              refine one_ (i := 13) (N := some 62) (bs 16 16383) rfl rfl (one_of HT_.out (by kernel_rfl)) (by decide) (fun K hK => ?_)
              refine Kd.R_append_step k26 (w0 := w) w.heap.size (by rfl) (.tmp 50) (.tmp 61) 22 26 (.agg #[(.int .i64 0), (.int .i64 0), (.int .i64 0), (.int .i64 0)]) 32 rfl Try.underlying22 info26 rfl (by decide) (by omega) u588002 x588002_3 (⟨t588, t589, t590, t591⟩ : S26) [.int .i64 t588, .int .i64 t589, .int .i64 t590, .int .i64 t591] (fun _ => True) (fun _ => False) rfl rfl ?aP (fun _ hk => hk.elim) ?aF ?aO ?aB ?aS ?aL ?_
              (case aP => exact k26_mkM _ _ _ (⟨t588, t589, t590, t591⟩ : S26))
              (case aB => exact (by exact zb0 HB))
              (case aF => exact (fun _ _ => trivial))
              (case aO => exact (by exact zr0 HO_588002))
              (case aS => exact (below_size (by exact zb0 HB)))
              (case aL => have := LMc44.out; omega)
              intro v593 w51 ho hb hg hat
              rw [← Ny592.out] at ho
              have n0_ := Aside0.mk (blk_grown (zk0 BK581) hg (Kd.R_ne HO_588002.out BK581.out (by decide)))
              have n1_ := Aside0.mk (blk_grown (zk0 BK582) hg (Kd.R_ne HO_588002.out BK582.out (by decide)))
              have n2_ := Aside0.mk (blk_grown (zk0 BK583) hg (Kd.R_ne HO_588002.out BK583.out (by decide)))
              have n3_ := Aside0.mk (blk_grown (zk0 BK587) hg (Kd.R_ne HO_588002.out BK587.out (by decide)))
              have n4_ := Aside0.mk (hb)
              have n5_ := Aside0.mk (ho)
              clear BK581
              clear BK582
              clear BK583
              clear BK587
              clear HB
              clear HO_588002
              have BK581 := n0_
              have BK582 := n1_
              have BK583 := n2_
              have BK587 := n3_
              have HB := n4_
              have HO594 := n5_
              clear n0_ n1_ n2_ n3_ n4_ n5_
              clear ho hb hg hat
              obtain ⟨Ao52, co52, eo52⟩ := Kd.R_slice HO594.out
              (first | subst eo52 | (injection eo52 with f1_ f2_ f3_; have f4_ := f1_.symm; have f5_ := f3_.symm; clear f1_ f2_ f3_; subst f4_; subst f5_))
              refine hK.out _ _ ⟨(blk_cell BK587.out 0).trans rfl, (blk_cell BK587.out 1).trans rfl, (blk_cell BK587.out 2).trans rfl, (blk_cell BK581.out 0).trans rfl, (blk_cell BK581.out 1).trans rfl, (blk_cell BK581.out 2).trans rfl, (blk_cell BK582.out 0).trans rfl, (blk_cell BK582.out 1).trans rfl, (blk_cell BK582.out 2).trans rfl, (blk_cell BK582.out 3).trans rfl⟩ (fun hHeld => ?_)
              clear hK K
              refine norm_ (a' := ?_) ?_ ?_
              rotate_left
              ·show Act.put _ (some 62) _ = _
               simp only [Act.put, sA, sB, sC, i64_w, i32_w]
               rfl
              refine pure_ (i := 14) (N := some 63) (v := ?_) (a' := ?_) (bs 16 32767) rfl rfl (any_of HT_.out (by kernel_rfl)) (fun _ _ _ h => h) (Or.inl ⟨by rfl, ?_⟩) ?_ ?_
              rotate_left
              ·intro w'
               go_simp
               with_reducible rfl
              rotate_left
              ·simp only [Act.put, sA, sB, sC, i64_w, i32_w]
               rfl
              refine last_ (i := 15) (N := none) (bs 16 65535) rfl rfl (one_of HT_.out (by kernel_rfl)) (by decide) (fun K hK => ?_)
              have hs53 : w51.cell? ⟨gb587, 2, none⟩ = some (u588002) := (blk_cell BK587.out 2).trans rfl
              have hfs53 := blk_frozen BK587.out 2
              have hns53_0 := NB581_587.out
              have hns53_1 := NB582_587.out
              have hns53_2 := NB583_587.out
              have hms53_0 := NB587_581.out
              have hms53_1 := NB587_582.out
              have hms53_2 := NB587_583.out
              refine skip_ (w1 := ?_) (by rfl) rfl ?_ ?_
              rotate_left
              ·go_simp
               rfl
              refine hK.out _ _ ?_
              clear hK K
              refine done_ (done_of HT_.out (by kernel_rfl)) ?_
              try go_wp2
              go_roundg k3
              case measure => have := HJ6.out; have := HK2.out; have := HK3.out; omega
              case rel => exact ⟨(wrap64 (x9_3 + 1)), (y592), (.slice Ao52 y592.length co52), (by first | rfl | (simp; done) | (simp [*]; done)), H', ⟨by have := HJ6.out; have := HK2.out; have := HK3.out; omega⟩, ⟨by exact zro HO594 BK587 (by decide)⟩, ⟨by exact zf BK581 NB581_587⟩, ⟨by exact zf BK582 NB582_587⟩, ⟨by exact zf BK583 NB583_587⟩, ⟨by exact zp BK587 rfl⟩, ⟨by exact zbo HB GE587⟩⟩
             ·rw [if_neg c44] at H
              exact absurd H (by simp)
            ·rw [if_neg c42] at H
             have c42b0 : decide (x9_3 < a1_2) = false := decide_eq_false c42
             clear c42
             have H' := Aside0.mk H
             clear H
             obtain ⟨hcz54_0, hcz54_1, hcz54_2, hcz54_3, hfz54_0, hfz54_1, hfz54_2, hfz54_3⟩ := zq4 BK582
             go_wp2
             go_roundg k3
             case measure => have := HJ6.out; have := HK2.out; have := HK3.out; omega
             case rel => exact ⟨(wrap64 (x8_2 + 1)), (x588002_3), (u588002), (by first | rfl | (simp; done) | (simp [*]; done)), H', ⟨by have := HJ6.out; have := HK2.out; have := HK3.out; omega⟩, ⟨by exact zr0 HO_588002⟩, ⟨by exact zk0 BK581⟩, ⟨by exact zk0 BK582⟩, ⟨by exact zk0 BK583⟩, ⟨by exact zk0 BK587⟩, ⟨by exact zb0 HB⟩⟩
         ·rw [if_neg c40] at H
          have c40b0 : decide (x8_2 < a1_3) = false := decide_eq_false c40
          clear c40
          simp only [Option.some.injEq, Prod.mk.injEq] at H
          obtain ⟨rfl, rfl, rfl, rfl⟩ := H
          have hnb55 := NB582_581.out
          have hnc55 := NB581_582.out
          have hnb56 := NB582_583.out
          have hnc56 := NB583_582.out
          have hnb57 := NB582_587.out
          have hnc57 := NB587_582.out
          obtain ⟨hcz58_0, hcz58_1, hcz58_2, hcz58_3, hfz58_0, hfz58_1, hfz58_2, hfz58_3⟩ := zq4 BK582
          have hnb59 := NB587_581.out
          have hnc59 := NB581_587.out
          have hnb60 := NB587_583.out
          have hnc60 := NB583_587.out
          obtain ⟨hcz61_0, hcz61_1, hcz61_2, hfz61_0, hfz61_1, hfz61_2⟩ := zq3 BK587
          have hnb62 := NB583_581.out
          have hnc62 := NB581_583.out
          obtain ⟨hcz63_0, hcz63_1, hcz63_2, hfz63_0, hfz63_1, hfz63_2⟩ := zq3 BK583
          obtain ⟨Ao64, co64, eo64⟩ := Kd.R_slice HO_588002.out
          subst eo64
          go_wp2
          refine bodyPost_ret (results_ct rfl _ _ gb583 24 #[.int .i64 a1_2, .int .i64 a1_3, .slice Ao64 x588002_2.length co64] (0, 0) _ rfl (by exact zp BK583 rfl) Try.underlying24 rfl (by kernel_rfl)) rfl ?_
          exact ⟨_, by first | rfl | (simp [errW_none, errW_some] <;> rfl) | (simp [*, errW_none, errW_some] <;> rfl), by exact zro HO_588002 BK583 (by decide), by exact zbo HB GE583⟩
  ·replace c6 := Bool.eq_false_iff.mpr c6
   subst c6
   have H1 : (some (0, 0, ([] : List (S26)), 2)) = some (r1, r2, r3, r4) := by rw [if_neg (show ¬ (false = true) by decide)] at H; exact H
   clear H
   have H := H1
   clear H1
   simp only [Option.some.injEq, Prod.mk.injEq] at H
   obtain ⟨rfl, rfl, rfl, rfl⟩ := H
   go_enter Try.func28, Try.ntmps28
   go_wp2_with (first | ((with_reducible refine gate_dst (N := 2) rfl ?_); refine box_event ?hg (N := 2) ?hd (cs := #[.int .i64 a0_0, .int .i64 a0_1, .slice A0_2 l0_2.length c0_2]) (t := 24) ?hr ?_; (case hd => rfl); (case hg => rfl); (case hr => first | (go_simp; done) | (go_simp; rfl)); intro gb581 hg w65 hbox hb; have GW581 := zg HB hg; have GE581 := zg HB hg; have n0_ := Aside0.mk (hbox); replace HB := zb HB hb; have BK581 := n0_; clear n0_; clear hb hbox hg) | ((with_reducible refine gate_dst (N := 3) rfl ?_); refine box_event ?hg (N := 3) ?hd (cs := #[.int .i64 a1_0, .int .i64 a1_1, .int .i64 a1_2, .int .i64 a1_3]) (t := 37) ?hr ?_; (case hd => rfl); (case hg => rfl); (case hr => first | (go_simp; done) | (go_simp; rfl)); intro gb582 hg w66 hbox hb; have GW582 := zg HB hg; have GE582 := zg HB hg; have NB581_582 := zn BK581 hg; have NB582_581 := zn' BK581 hg; have n0_ := Aside0.mk (hbox); replace BK581 := zk BK581 hb; replace HB := zb HB hb; have BK582 := n0_; clear n0_; clear hb hbox hg) | ((with_reducible refine gate_dst (N := 4) rfl ?_); refine box_event ?hg (N := 4) ?hd (cs := #[.int .i64 0, .int .i64 0, .slice none 0 0]) (t := 24) ?hr ?_; (case hd => rfl); (case hg => rfl); (case hr => first | (go_simp; done) | (go_simp; rfl)); intro gb583 hg w67 hbox hb; have GW583 := zg HB hg; have GE583 := zg HB hg; have NB581_583 := zn BK581 hg; have NB583_581 := zn' BK581 hg; have NB582_583 := zn BK582 hg; have NB583_582 := zn' BK582 hg; have n0_ := Aside0.mk (hbox); replace BK581 := zk BK581 hb; replace BK582 := zk BK582 hb; replace HB := zb HB hb; have BK583 := n0_; clear n0_; clear hb hbox hg; have hnb68 := NB581_582.out; have hnc68 := NB582_581.out; have hnb69 := NB581_583.out; have hnc69 := NB583_581.out; obtain ⟨hcz70_0, hcz70_1, hcz70_2, hfz70_0, hfz70_1, hfz70_2⟩ := zq3 BK581) | ((with_reducible refine gate_callee (f := 19) rfl ?_); refine goesL_ (some 11) rfl rfl Try.func19 (by kernel_rfl) rfl #[.agg #[.int .i64 a0_0, .int .i64 a0_1, .slice A0_2 l0_2.length c0_2]] rfl (by (try simp only [List.map_toArray, List.map_cons, List.map_nil]); first | done | rfl | (simp only [List.length_drop, List.length_take]; rfl)) ?_; (with_reducible refine (imageeditorref11_Check.calls k a0_0 a0_1 _ _ l0_2 t584 _ ?side1 ?side2 A3.out).mono ?_); (case side1 => repeat (first | exact (Kd.C_below HR0_2.out HB.out) | (with_reducible refine Kd.C_alloc ?_ _) | (with_reducible refine Kd.C_drewN ?_ _) | (with_reducible refine Kd.C_drew ?_))); (case side2 => exact HC0_2.out); rintro e w71 ⟨rfl, hb⟩; refine ⟨_, rfl, ?_⟩; replace BK581 := zk BK581 hb; replace BK582 := zk BK582 hb; replace BK583 := zk BK583 hb; replace HB := zb HB hb; (try clear hb); (try clear hb2); (try clear hk); (try clear hi); have hnb72 := NB582_583.out; have hnc72 := NB583_582.out; obtain ⟨hcz73_0, hcz73_1, hcz73_2, hcz73_3, hfz73_0, hfz73_1, hfz73_2, hfz73_3⟩ := zq4 BK582) | ((with_reducible refine gate_callee (f := 48) rfl ?_); refine goesL_ (some 17) rfl rfl Try.func48 (by kernel_rfl) rfl #[.agg #[.int .i64 a1_0, .int .i64 a1_1, .int .i64 a1_2, .int .i64 a1_3]] rfl (by (try simp only [List.map_toArray, List.map_cons, List.map_nil]); first | done | rfl | (simp only [List.length_drop, List.length_take]; rfl)) ?_; (with_reducible refine (imageeditorref02_Valid.calls a1_0 a1_1 a1_2 a1_3 false _ A5.out).mono ?_); rintro e w74 ⟨rfl, hb⟩; refine ⟨_, rfl, ?_⟩; replace BK581 := zk BK581 hb; replace BK582 := zk BK582 hb; replace BK583 := zk BK583 hb; replace HB := zb HB hb; (try clear hb); (try clear hb2); (try clear hk); (try clear hi); obtain ⟨hcz75_0, hcz75_1, hcz75_2, hfz75_0, hfz75_1, hfz75_2⟩ := zq3 BK583))
   refine bodyPost_ret (results_ct rfl _ _ gb583 24 #[.int .i64 0, .int .i64 0, .slice none 0 0] (0, 0) _ rfl (by exact zp BK583 rfl) Try.underlying24 rfl (by kernel_rfl)) rfl ?_
   exact ⟨_, by first | rfl | (simp [errW_none, errW_some] <;> rfl) | (simp [*, errW_none, errW_some] <;> rfl), by first | exact Kd.R_nil _ _ _ _ _ | exact Kd.N_nil _ _ _ _ _ | exact Kd.V_nil _ _ _ _ _ | exact Kd.Q_nil _ _ _ _ _ | exact Kd.S_nil _ _ _ _ _, by exact zbo HB GE583⟩
 ·rw [if_neg c4] at H
  have c4b0 : (t584 == 0) = false := beq_eq_false_iff_ne.mpr c4
  have c4b1 : (t584 != 0) = true := bne_iff_ne.mpr c4
  simp only [Option.some.injEq, Prod.mk.injEq] at H
  obtain ⟨rfl, rfl, rfl, rfl⟩ := H
  go_enter Try.func28, Try.ntmps28
  go_wp2_with (first | ((with_reducible refine gate_dst (N := 2) rfl ?_); refine box_event ?hg (N := 2) ?hd (cs := #[.int .i64 a0_0, .int .i64 a0_1, .slice A0_2 l0_2.length c0_2]) (t := 24) ?hr ?_; (case hd => rfl); (case hg => rfl); (case hr => first | (go_simp; done) | (go_simp; rfl)); intro gb581 hg w76 hbox hb; have GW581 := zg HB hg; have GE581 := zg HB hg; have n0_ := Aside0.mk (hbox); replace HB := zb HB hb; have BK581 := n0_; clear n0_; clear hb hbox hg) | ((with_reducible refine gate_dst (N := 3) rfl ?_); refine box_event ?hg (N := 3) ?hd (cs := #[.int .i64 a1_0, .int .i64 a1_1, .int .i64 a1_2, .int .i64 a1_3]) (t := 37) ?hr ?_; (case hd => rfl); (case hg => rfl); (case hr => first | (go_simp; done) | (go_simp; rfl)); intro gb582 hg w77 hbox hb; have GW582 := zg HB hg; have GE582 := zg HB hg; have NB581_582 := zn BK581 hg; have NB582_581 := zn' BK581 hg; have n0_ := Aside0.mk (hbox); replace BK581 := zk BK581 hb; replace HB := zb HB hb; have BK582 := n0_; clear n0_; clear hb hbox hg) | ((with_reducible refine gate_dst (N := 4) rfl ?_); refine box_event ?hg (N := 4) ?hd (cs := #[.int .i64 0, .int .i64 0, .slice none 0 0]) (t := 24) ?hr ?_; (case hd => rfl); (case hg => rfl); (case hr => first | (go_simp; done) | (go_simp; rfl)); intro gb583 hg w78 hbox hb; have GW583 := zg HB hg; have GE583 := zg HB hg; have NB581_583 := zn BK581 hg; have NB583_581 := zn' BK581 hg; have NB582_583 := zn BK582 hg; have NB583_582 := zn' BK582 hg; have n0_ := Aside0.mk (hbox); replace BK581 := zk BK581 hb; replace BK582 := zk BK582 hb; replace HB := zb HB hb; have BK583 := n0_; clear n0_; clear hb hbox hg; have hnb79 := NB581_582.out; have hnc79 := NB582_581.out; have hnb80 := NB581_583.out; have hnc80 := NB583_581.out; obtain ⟨hcz81_0, hcz81_1, hcz81_2, hfz81_0, hfz81_1, hfz81_2⟩ := zq3 BK581) | ((with_reducible refine gate_callee (f := 19) rfl ?_); refine goesL_ (some 11) rfl rfl Try.func19 (by kernel_rfl) rfl #[.agg #[.int .i64 a0_0, .int .i64 a0_1, .slice A0_2 l0_2.length c0_2]] rfl (by (try simp only [List.map_toArray, List.map_cons, List.map_nil]); first | done | rfl | (simp only [List.length_drop, List.length_take]; rfl)) ?_; (with_reducible refine (imageeditorref11_Check.calls k a0_0 a0_1 _ _ l0_2 t584 _ ?side1 ?side2 A3.out).mono ?_); (case side1 => repeat (first | exact (Kd.C_below HR0_2.out HB.out) | (with_reducible refine Kd.C_alloc ?_ _) | (with_reducible refine Kd.C_drewN ?_ _) | (with_reducible refine Kd.C_drew ?_))); (case side2 => exact HC0_2.out); rintro e w82 ⟨rfl, hb⟩; refine ⟨_, rfl, ?_⟩; replace BK581 := zk BK581 hb; replace BK582 := zk BK582 hb; replace BK583 := zk BK583 hb; replace HB := zb HB hb; (try clear hb); (try clear hb2); (try clear hk); (try clear hi); have hnb83 := NB583_582.out; have hnc83 := NB582_583.out; obtain ⟨hcz84_0, hcz84_1, hcz84_2, hfz84_0, hfz84_1, hfz84_2⟩ := zq3 BK583))
  refine bodyPost_ret (results_ct rfl _ _ gb583 24 #[.int .i64 0, .int .i64 0, .slice none 0 0] (0, 0) _ rfl (by exact zp BK583 rfl) Try.underlying24 rfl (by kernel_rfl)) rfl ?_
  exact ⟨_, by first | rfl | (simp [errW_none, errW_some] <;> rfl) | (simp [*, errW_none, errW_some] <;> rfl), by first | exact Kd.R_nil _ _ _ _ _ | exact Kd.N_nil _ _ _ _ _ | exact Kd.V_nil _ _ _ _ _ | exact Kd.Q_nil _ _ _ _ _ | exact Kd.S_nil _ _ _ _ _, by exact zbo HB GE583⟩

/-! ### imageeditorlaw11_RasterCrops: function 6 -/
def imageeditorlaw11_RasterCrops.f (k : Nat) (a0_0 : Int) (a0_1 : Int) (l0_2 : List (S26)) (a1_0 : Int) (a1_1 : Int) (a1_2 : Int) (a1_3 : Int) : Option (Bool) := (raster_Crop.f k a0_0 a0_1 l0_2 a1_0 a1_1 a1_2 a1_3).bind fun bt597 => ((imageeditorref11_Crop.f k a0_0 a0_1 l0_2 a1_0 a1_1 a1_2 a1_3).bind fun bt604 => ((imageeditorlaw11_awake.f k).bind fun t611 => (if t611 = true then (if bt597.2.2.2 = bt604.2.2.2 then ((imageeditorlaw11_same.f k bt597.1 bt597.2.1 bt597.2.2.1 bt604.1 bt604.2.1 bt604.2.2.1).bind fun t612 => (some t612)) else (some false)) else (some false))))
theorem imageeditorlaw11_RasterCrops.mono : ∀ a0 a1 a2 a3 a4 a5 a6 k, LeO (imageeditorlaw11_RasterCrops.f k a0 a1 a2 a3 a4 a5 a6) (imageeditorlaw11_RasterCrops.f (k + 1) a0 a1 a2 a3 a4 a5 a6) := by
 intro a0 a1 a2 a3 a4 a5 a6 k
 unfold imageeditorlaw11_RasterCrops.f
 repeat' first
   | (with_reducible exact imageeditorlaw11_awake.mono _)
   | (with_reducible exact imageeditorlaw11_same.mono _ _ _ _ _ _ _)
   | (with_reducible exact imageeditorref11_Crop.mono _ _ _ _ _ _ _ _)
   | (with_reducible exact raster_Crop.mono _ _ _ _ _ _ _ _)
   | (with_reducible exact LeO.refl _)
   | (with_reducible exact LeO.none _)
   | (with_reducible refine LeO.ite ?_ ?_)
   | (with_reducible refine LeO.bind ?_ (fun _ => ?_))
   | exact imageeditorlaw11_awake.mono _
   | exact imageeditorlaw11_same.mono _ _ _ _ _ _ _
   | exact imageeditorref11_Crop.mono _ _ _ _ _ _ _ _
   | exact raster_Crop.mono _ _ _ _ _ _ _ _
   | exact LeO.none _
   | refine LeO.ite ?_ ?_
   | refine LeO.bind ?_ (fun _ => ?_)
set_option maxHeartbeats 8000000 in
set_option maxRecDepth 100000 in
theorem imageeditorlaw11_RasterCrops.callsT (k : Nat) (a0_0 : Int) (a0_1 : Int) (A0_2 : Option Addr) (c0_2 : Nat) (l0_2 : List (S26)) (a1_0 : Int) (a1_1 : Int) (a1_2 : Int) (a1_3 : Int) (r : Bool) (w : World) (hr0_2 : Kd.C k26 w A0_2 l0_2.length l0_2) (hc0_2 : l0_2.length ≤ c0_2) (hT : r = true) (h : imageeditorlaw11_RasterCrops.f k a0_0 a0_1 l0_2 a1_0 a1_1 a1_2 a1_3 = some r) :
  Calls Try.prog 6 #[.agg #[.int .i64 a0_0, .int .i64 a0_1, .slice A0_2 l0_2.length c0_2], .agg #[.int .i64 a1_0, .int .i64 a1_1, .int .i64 a1_2, .int .i64 a1_3]] w fun e w' => e = .returned (.bool r) ∧ Below w.heap.size w w' := by
 have hu24 := Try.underlying24
 have hu37 := Try.underlying37
 have HT := Aside0.mk hT
 clear hT
 have HR0_2 := Aside0.mk hr0_2
 have HC0_2 := Aside0.mk hc0_2
 clear hr0_2 hc0_2
 have HB := Aside0.mk (Below.refl w.heap.size w)
 have H : ((raster_Crop.f k a0_0 a0_1 l0_2 a1_0 a1_1 a1_2 a1_3).bind fun bt597 => ((imageeditorref11_Crop.f k a0_0 a0_1 l0_2 a1_0 a1_1 a1_2 a1_3).bind fun bt604 => ((imageeditorlaw11_awake.f k).bind fun t611 => (if t611 = true then (if bt597.2.2.2 = bt604.2.2.2 then ((imageeditorlaw11_same.f k bt597.1 bt597.2.1 bt597.2.2.1 bt604.1 bt604.2.1 bt604.2.2.1).bind fun t612 => (some t612)) else (some false)) else (some false))))) = some r := h
 clear h
 replace H := Option.bind_eq_some_iff.mp H
 obtain ⟨⟨t597, t598, t599, t602⟩, A30, H⟩ := H
 replace H : ((imageeditorref11_Crop.f k a0_0 a0_1 l0_2 a1_0 a1_1 a1_2 a1_3).bind fun bt604 => ((imageeditorlaw11_awake.f k).bind fun t611 => (if t611 = true then (if t602 = bt604.2.2.2 then ((imageeditorlaw11_same.f k t597 t598 t599 bt604.1 bt604.2.1 bt604.2.2.1).bind fun t612 => (some t612)) else (some false)) else (some false)))) = some r := H
 have A3 := Aside0.mk A30
 clear A30
 replace H := Option.bind_eq_some_iff.mp H
 obtain ⟨⟨t604, t605, t606, t609⟩, A40, H⟩ := H
 replace H : ((imageeditorlaw11_awake.f k).bind fun t611 => (if t611 = true then (if t602 = t609 then ((imageeditorlaw11_same.f k t597 t598 t599 t604 t605 t606).bind fun t612 => (some t612)) else (some false)) else (some false))) = some r := H
 have A4 := Aside0.mk A40
 clear A40
 replace H := Option.bind_eq_some_iff.mp H
 obtain ⟨t611, A50, H⟩ := H
 replace H : (if t611 = true then (if t602 = t609 then ((imageeditorlaw11_same.f k t597 t598 t599 t604 t605 t606).bind fun t612 => (some t612)) else (some false)) else (some false)) = some r := H
 have A5 := Aside0.mk A50
 clear A50
 by_cases c6 : t611 = true
 ·subst c6
  have H1 : (if t602 = t609 then ((imageeditorlaw11_same.f k t597 t598 t599 t604 t605 t606).bind fun t612 => (some t612)) else (some false)) = some r := by rw [if_pos rfl] at H; exact H
  clear H
  have H := H1
  clear H1
  by_cases c7 : t602 = t609
  ·rw [if_pos c7] at H
   have c7b0 : (t602 == t609) = true := beq_iff_eq.mpr c7
   have c7b1 : (t602 != t609) = false := bne_eq_false_iff_eq.mpr c7
   clear c7
   replace H := Option.bind_eq_some_iff.mp H
   obtain ⟨t612, A80, H⟩ := H
   replace H : (some t612) = some r := H
   have A8 := Aside0.mk A80
   clear A80
   as_aux_lemma =>
    obtain rfl := Option.some.inj H
    go_enter Try.func6, Try.ntmps6
    go_wp2_with (first | ((with_reducible refine gate_dst (N := 2) rfl ?_); refine box_event ?hg (N := 2) ?hd (cs := #[.int .i64 a0_0, .int .i64 a0_1, .slice A0_2 l0_2.length c0_2]) (t := 24) ?hr ?_; (case hd => rfl); (case hg => rfl); (case hr => first | (go_simp; done) | (go_simp; rfl)); intro gb595 hg w9 hbox hb; have GW595 := zg HB hg; have GE595 := zg HB hg; have n0_ := Aside0.mk (hbox); replace HB := zb HB hb; have BK595 := n0_; clear n0_; clear hb hbox hg) | ((with_reducible refine gate_dst (N := 3) rfl ?_); refine box_event ?hg (N := 3) ?hd (cs := #[.int .i64 a1_0, .int .i64 a1_1, .int .i64 a1_2, .int .i64 a1_3]) (t := 37) ?hr ?_; (case hd => rfl); (case hg => rfl); (case hr => first | (go_simp; done) | (go_simp; rfl)); intro gb596 hg w10 hbox hb; have GW596 := zg HB hg; have GE596 := zg HB hg; have NB595_596 := zn BK595 hg; have NB596_595 := zn' BK595 hg; have n0_ := Aside0.mk (hbox); replace BK595 := zk BK595 hb; replace HB := zb HB hb; have BK596 := n0_; clear n0_; clear hb hbox hg; have hnb11 := NB595_596.out; have hnc11 := NB596_595.out; obtain ⟨hcz12_0, hcz12_1, hcz12_2, hfz12_0, hfz12_1, hfz12_2⟩ := zq3 BK595; obtain ⟨hcz13_0, hcz13_1, hcz13_2, hcz13_3, hfz13_0, hfz13_1, hfz13_2, hfz13_3⟩ := zq4 BK596) | ((with_reducible refine gate_callee (f := 27) rfl ?_); refine goesL_ (some 12) rfl rfl Try.func27 (by kernel_rfl) rfl #[.agg #[.int .i64 a0_0, .int .i64 a0_1, .slice A0_2 l0_2.length c0_2], .agg #[.int .i64 a1_0, .int .i64 a1_1, .int .i64 a1_2, .int .i64 a1_3]] rfl (by (try simp only [List.map_toArray, List.map_cons, List.map_nil]); first | done | rfl | (simp only [List.length_drop, List.length_take]; rfl)) ?_; (with_reducible refine (raster_Crop.calls k a0_0 a0_1 _ _ l0_2 a1_0 a1_1 a1_2 a1_3 t597 t598 t599 t602 _ ?side1 ?side2 A3.out).mono ?_); (case side1 => repeat (first | exact (Kd.C_below HR0_2.out HB.out) | (with_reducible refine Kd.C_alloc ?_ _) | (with_reducible refine Kd.C_drewN ?_ _) | (with_reducible refine Kd.C_drew ?_))); (case side2 => exact HC0_2.out); rintro e w14 ⟨v600, rfl, ho0, hb⟩; refine ⟨_, rfl, ?_⟩; have HO601 := zl HB ho0; replace BK595 := zk BK595 hb; replace BK596 := zk BK596 hb; replace HB := zb HB hb; (try clear hb); (try clear hb2); (try clear hk); (try clear hi); (try clear ho0)) | ((with_reducible refine gate_dst (N := 5) rfl ?_); refine box_event ?hg (N := 5) ?hd (cs := #[.int .i64 0, .int .i64 0, .slice none 0 0]) (t := 24) ?hr ?_; (case hd => rfl); (case hg => rfl); (case hr => first | (go_simp; done) | (go_simp; rfl)); intro gb603 hg w15 hbox hb; have GW603 := zg HB hg; have GE603 := zg HB hg; have NB595_603 := zn BK595 hg; have NB603_595 := zn' BK595 hg; have NB596_603 := zn BK596 hg; have NB603_596 := zn' BK596 hg; have n0_ := Aside0.mk (hbox); replace HO601 := zr HO601 hb; replace BK595 := zk BK595 hb; replace BK596 := zk BK596 hb; replace HB := zb HB hb; have BK603 := n0_; clear n0_; clear hb hbox hg; have hnb16 := NB603_595.out; have hnc16 := NB595_603.out; have hnb17 := NB603_596.out; have hnc17 := NB596_603.out; obtain ⟨hcz18_0, hcz18_1, hcz18_2, hfz18_0, hfz18_1, hfz18_2⟩ := zq3 BK603; obtain ⟨Ao19, co19, eo19⟩ := Kd.R_slice HO601.out; subst eo19; obtain ⟨hcz20_0, hcz20_1, hcz20_2, hfz20_0, hfz20_1, hfz20_2⟩ := zq3 BK595; obtain ⟨hcz21_0, hcz21_1, hcz21_2, hcz21_3, hfz21_0, hfz21_1, hfz21_2, hfz21_3⟩ := zq4 BK596) | ((with_reducible refine gate_callee (f := 28) rfl ?_); refine goesL_ (some 18) rfl rfl Try.func28 (by kernel_rfl) rfl #[.agg #[.int .i64 a0_0, .int .i64 a0_1, .slice A0_2 l0_2.length c0_2], .agg #[.int .i64 a1_0, .int .i64 a1_1, .int .i64 a1_2, .int .i64 a1_3]] rfl (by (try simp only [List.map_toArray, List.map_cons, List.map_nil]); first | done | rfl | (simp only [List.length_drop, List.length_take]; rfl)) ?_; (with_reducible refine (imageeditorref11_Crop.calls k a0_0 a0_1 _ _ l0_2 a1_0 a1_1 a1_2 a1_3 t604 t605 t606 t609 _ ?side1 ?side2 A4.out).mono ?_); (case side1 => exact Kd.C_below HR0_2.out (by exact zbo HB GE603)); (case side2 => exact HC0_2.out); rintro e w22 ⟨v607, rfl, ho0, hb⟩; refine ⟨_, rfl, ?_⟩; have n0_ := Aside0.mk (Kd.R_below (by exact zro HO601 BK603 (by decide)) hb); have n1_ := Aside0.mk (Kd.R_lower ho0 (below_size (by exact zbo HB GE603))); have n2_ := Aside0.mk (blk_below (g := gb603) (o := .cells #[.int .i64 t597, .int .i64 t598, .slice Ao19 t599.length co19] 24 (0, 0)) (by exact zp BK603 rfl) hb); have n3_ := Aside0.mk (below_step (by exact zbo HB GE603) hb); replace BK595 := zfk BK595 NB595_603 hb; replace BK596 := zfk BK596 NB596_603 hb; clear HO601; clear BK603; clear HB; have HO601 := n0_; have HO608 := n1_; have BK603 := n2_; have HB := n3_; clear n0_ n1_ n2_ n3_; (try clear hb); (try clear hb2); (try clear hk); (try clear hi); (try clear ho0); (try clear BK595); (try clear BK596)) | ((with_reducible refine gate_dst (N := 7) rfl ?_); refine box_event ?hg (N := 7) ?hd (cs := #[.int .i64 0, .int .i64 0, .slice none 0 0]) (t := 24) ?hr ?_; (case hd => rfl); (case hg => rfl); (case hr => first | (go_simp; done) | (go_simp; rfl)); intro gb610 hg w23 hbox hb; have GW610 := zg HB hg; have GE610 := zg HB hg; have NB603_610 := zn BK603 hg; have NB610_603 := zn' BK603 hg; have n0_ := Aside0.mk (hbox); replace HO601 := zr HO601 hb; replace HO608 := zr HO608 hb; replace BK603 := zk BK603 hb; replace HB := zb HB hb; have BK610 := n0_; clear n0_; clear hb hbox hg; have hnb24 := NB610_603.out; have hnc24 := NB603_610.out; obtain ⟨hcz25_0, hcz25_1, hcz25_2, hfz25_0, hfz25_1, hfz25_2⟩ := zq3 BK610; obtain ⟨Ao26, co26, eo26⟩ := Kd.R_slice HO608.out; subst eo26) | ((with_reducible refine gate_callee (f := 17) rfl ?_); refine goesL_ (some 21) rfl rfl Try.func17 (by kernel_rfl) rfl #[] rfl (by (try simp only [List.map_toArray, List.map_cons, List.map_nil]); first | done | rfl | (simp only [List.length_drop, List.length_take]; rfl)) ?_; (with_reducible refine (imageeditorlaw11_awake.calls k  true _ A5.out).mono ?_); rintro e w27 ⟨rfl, hb⟩; refine ⟨_, rfl, ?_⟩; have n0_ := Aside0.mk (Kd.R_below (by exact zro HO601 BK610 (by decide)) hb); have n1_ := Aside0.mk (Kd.R_below (by exact zro HO608 BK610 (by decide)) hb); have n2_ := Aside0.mk (blk_below (g := gb610) (o := .cells #[.int .i64 t604, .int .i64 t605, .slice Ao26 t606.length co26] 24 (0, 0)) (by exact zp BK610 rfl) hb); have n3_ := Aside0.mk (below_step (by exact zbo HB GE610) hb); replace BK603 := zfk BK603 NB603_610 hb; clear HO601; clear HO608; clear BK610; clear HB; have HO601 := n0_; have HO608 := n1_; have BK610 := n2_; have HB := n3_; clear n0_ n1_ n2_ n3_; (try clear hb); (try clear hb2); (try clear hk); (try clear hi); obtain ⟨hcz28_0, hcz28_1, hcz28_2, hfz28_0, hfz28_1, hfz28_2⟩ := zq3 BK603; obtain ⟨hcz29_0, hcz29_1, hcz29_2, hfz29_0, hfz29_1, hfz29_2⟩ := zq3 BK610; (try clear BK603); (try clear BK610)) | (go_at_call 20; (with_reducible refine (imageeditorlaw11_same.calls k t597 t598 _ _ t599 t604 t605 _ _ t606 t612 _ ?side1 ?side2 ?side3 ?side4 A8.out).mono ?_); (case side1 => repeat (first | exact (Kd.R_reads' HO601.out).2.2 | (with_reducible refine Kd.C_alloc ?_ _) | (with_reducible refine Kd.C_drewN ?_ _) | (with_reducible refine Kd.C_drew ?_))); (case side2 => exact (Kd.R_reads' HO601.out).2.1); (case side3 => repeat (first | exact (Kd.R_reads' HO608.out).2.2 | (with_reducible refine Kd.C_alloc ?_ _) | (with_reducible refine Kd.C_drewN ?_ _) | (with_reducible refine Kd.C_drew ?_))); (case side4 => exact (Kd.R_reads' HO608.out).2.1); rintro e w30 ⟨rfl, hb⟩; replace HO601 := zr HO601 hb; replace HO608 := zr HO608 hb; replace HB := zb HB hb; (try clear hb); (try clear hb2); (try clear hk); (try clear hi)))
    go_ret
    exact ⟨by first | rfl | (simp [errW_none, errW_some] <;> rfl) | (simp [*, errW_none, errW_some] <;> rfl), by exact zb0 HB⟩
  ·rw [if_neg c7] at H
   have c7b0 : (t602 == t609) = false := beq_eq_false_iff_ne.mpr c7
   have c7b1 : (t602 != t609) = true := bne_iff_ne.mpr c7
   as_aux_lemma =>
    exact absurd HT.out (by rw [← Option.some.inj H]; decide)
 ·replace c6 := Bool.eq_false_iff.mpr c6
  subst c6
  have H1 : (some false) = some r := by rw [if_neg (show ¬ (false = true) by decide)] at H; exact H
  clear H
  have H := H1
  clear H1
  as_aux_lemma =>
   exact absurd HT.out (by rw [← Option.some.inj H]; decide)

end Go.Proofs.Ytjepbimgddgijaa.G
