/- Contracts of functions of the program, each as it is called: what it computes (.f), that it computes no less with more rounds (.mono), and that a call returns just that (.calls). No conditions but those that each contract names. Written by a program of this session (wip/gx.py over the kit's print). -/
import Derived.Test.YtnfbabmceddciaaG0
import Derived.Test.YtnfbabmceddciaaG4
import Derived.Test.YtnfbabmceddciaaG9
import Derived.Test.YtnfbabmceddciaaG25
namespace Go.Proofs.Ytnfbabmceddciaa.G
open Go.RowKit Go.Proofs.YtnfbabmceddciaaW.PrintWords Go.Proofs.YtnfbabmceddciaaW.PrintLast Go.Proofs.YtnfbabmceddciaaW.PrintMore
attribute [local go_sem] max2_int min2_int max_two min_two max_three min_three max_four min_four max_five min_five   -- for this text's walks alone
set_option linter.unusedVariables false
set_option linter.unusedSimpArgs false


/-! ### raster_Crop_1: function 61 -/
def raster_Crop_1.f (a0 : Int) (a1 : Int) (a2_0 : Int) (a2_1 : Int) (l2_2 : List (S48)) (a3_0 : Int) (a3_1 : Int) (a3_2 : Int) (a3_3 : Int) : Option (Int × Int × Int × Int) := (raster_get.f a2_0 a2_1 l2_2 (wrap64 (a3_0 + a0)) (wrap64 (a3_1 + a1))).bind fun bt780 => (some (bt780.1, bt780.2.1, bt780.2.2.1, bt780.2.2.2))
set_option maxHeartbeats 8000000 in
set_option maxRecDepth 100000 in
theorem raster_Crop_1.calls (a0 : Int) (a1 : Int) (gc2_0 : Nat) (a2_0 : Int) (a2_1 : Int) (A2_2 : Option Addr) (c2_2 : Nat) (l2_2 : List (S48)) (gc3_0 : Nat) (a3_0 : Int) (a3_1 : Int) (a3_2 : Int) (a3_3 : Int) (r1 : Int) (r2 : Int) (r3 : Int) (r4 : Int) (w : World) (hp2_0 : w.heap[gc2_0]? = some (.cells #[.int .i64 a2_0, .int .i64 a2_1, .slice A2_2 l2_2.length c2_2] 40 (0, 0))) (hr2_2 : Kd.C k48 w A2_2 l2_2.length l2_2) (hc2_2 : l2_2.length ≤ c2_2) (hp3_0 : w.heap[gc3_0]? = some (.cells #[.int .i64 a3_0, .int .i64 a3_1, .int .i64 a3_2, .int .i64 a3_3] 34 (0, 0))) (h : raster_Crop_1.f a0 a1 a2_0 a2_1 l2_2 a3_0 a3_1 a3_2 a3_3 = some (r1, r2, r3, r4)) :
  Calls Try.prog 61 #[.int .i64 a0, .int .i64 a1, .pointer (some ⟨gc2_0, 0, none⟩), .pointer (some ⟨gc3_0, 0, none⟩)] w fun e w' => e = .returned (.agg #[.int .i64 r1, .int .i64 r2, .int .i64 r3, .int .i64 r4]) ∧ Below w.heap.size w w' := by
 have hu48 := Try.underlying48
 have hu40 := Try.underlying40
 have HR2_2 := Aside0.mk hr2_2
 have HC2_2 := Aside0.mk hc2_2
 clear hr2_2 hc2_2
 have BK777 := Aside0.mk hp2_0
 have GL777 := Aside0.mk (show gc2_0 < w.heap.size from blk_lt hp2_0)
 clear hp2_0
 have BK778 := Aside0.mk hp3_0
 have GL778 := Aside0.mk (show gc3_0 < w.heap.size from blk_lt hp3_0)
 clear hp3_0
 have HB := Aside0.mk (Below.refl w.heap.size w)
 have H : ((raster_get.f a2_0 a2_1 l2_2 (wrap64 (a3_0 + a0)) (wrap64 (a3_1 + a1))).bind fun bt780 => (some (bt780.1, bt780.2.1, bt780.2.2.1, bt780.2.2.2))) = some (r1, r2, r3, r4) := h
 clear h
 replace H := Option.bind_eq_some_iff.mp H
 obtain ⟨⟨t780, t781, t782, t783⟩, A50, H⟩ := H
 replace H : (some (t780, t781, t782, t783)) = some (r1, r2, r3, r4) := H
 have A5 := Aside0.mk A50
 clear A50
 simp only [Option.some.injEq, Prod.mk.injEq] at H
 obtain ⟨rfl, rfl, rfl, rfl⟩ := H
 go_enter Try.func61, Try.ntmps61
 go_wp2_with (first | ((with_reducible refine gate_dst (N := 6) rfl ?_); refine box_event ?hg (N := 6) ?hd (cs := #[.int .i64 0, .int .i64 0, .int .i64 0, .int .i64 0]) (t := 48) ?hr ?_; (case hd => rfl); (case hg => rfl); (case hr => first | (go_simp; done) | (go_simp; rfl)); intro gb779 hg w6 hbox hb; have GW779 := zg HB hg; have GE779 := zg HB hg; have NB777_779 := zn BK777 hg; have NB779_777 := zn' BK777 hg; have NB778_779 := zn BK778 hg; have NB779_778 := zn' BK778 hg; have n0_ := Aside0.mk (hbox); replace BK777 := zk BK777 hb; replace BK778 := zk BK778 hb; replace HB := zb HB hb; have BK779 := n0_; clear n0_; clear hb hbox hg; have hnb7 := NB777_779.out; have hnc7 := NB779_777.out; obtain ⟨hcz8_0, hcz8_1, hcz8_2, hfz8_0, hfz8_1, hfz8_2⟩ := zq3 BK777; have hnb9 := NB778_779.out; have hnc9 := NB779_778.out; obtain ⟨hcz10_0, hcz10_1, hcz10_2, hcz10_3, hfz10_0, hfz10_1, hfz10_2, hfz10_3⟩ := zq4 BK778) | ((with_reducible refine gate_callee (f := 59) rfl ?_); refine goesL_ (some 16) rfl rfl Try.func59 (by kernel_rfl) rfl #[.agg #[.int .i64 a2_0, .int .i64 a2_1, .slice A2_2 l2_2.length c2_2], .int .i64 (wrap64 (a3_0 + a0)), .int .i64 (wrap64 (a3_1 + a1))] rfl (by (try simp only [List.map_toArray, List.map_cons, List.map_nil]); first | done | rfl | (simp only [List.length_drop, List.length_take]; rfl)) ?_; (with_reducible refine (raster_get.calls a2_0 a2_1 _ _ l2_2 (wrap64 (a3_0 + a0)) (wrap64 (a3_1 + a1)) t780 t781 t782 t783 _ ?side1 ?side2 A5.out).mono ?_); (case side1 => repeat (first | exact (Kd.C_below HR2_2.out HB.out) | (with_reducible refine Kd.C_alloc ?_ _) | (with_reducible refine Kd.C_drewN ?_ _) | (with_reducible refine Kd.C_drew ?_))); (case side2 => exact HC2_2.out); rintro e w11 ⟨rfl, hb⟩; refine ⟨_, rfl, ?_⟩; replace BK777 := zk BK777 hb; replace BK778 := zk BK778 hb; replace BK779 := zk BK779 hb; replace HB := zb HB hb; (try clear hb); (try clear hb2); (try clear hk); (try clear hi); obtain ⟨hcz12_0, hcz12_1, hcz12_2, hcz12_3, hfz12_0, hfz12_1, hfz12_2, hfz12_3⟩ := zq4 BK779))
 refine bodyPost_ret (results_cell_row rfl _ _ gb779 48 #[.int .i64 t780, .int .i64 t781, .int .i64 t782, .int .i64 t783] (0, 0) _ rfl (by exact zp BK779 rfl) Try.underlying48 rfl (by kernel_rfl)) rfl ?_
 exact ⟨by first | rfl | (simp [errW_none, errW_some] <;> rfl) | (simp [*, errW_none, errW_some] <;> rfl), by exact zbo HB GE779⟩

/-! ### raster_fill__raster_Crop_1: function 60 -/
mutual
def raster_fill__raster_Crop_1.l0 : Nat → Int → Int → Int → Int → Int → List (S48) → Int → Int → Int → Int → Int → Int → List (S48) → Option (Int × Int × (List (S48)))
 | 0, _, _, _, _, _, _, _, _, _, _, _, _, _ => none
 | k + 1, x0, x17, x18, x785000, x785001, x785002, x786000, x786001, x786002, x786003, x791000, x791001, x791002 => if x18 < x17 then (raster_fill__raster_Crop_1.l1 k x0 x18 x17 x18 x0 0 x785000 x785001 x785002 x786000 x786001 x786002 x786003 x791000 x791001 x791002) else (some (x791000, x791001, x791002))
def raster_fill__raster_Crop_1.l1 : Nat → Int → Int → Int → Int → Int → Int → Int → Int → List (S48) → Int → Int → Int → Int → Int → Int → List (S48) → Option (Int × Int × (List (S48)))
 | 0, _, _, _, _, _, _, _, _, _, _, _, _, _, _, _, _ => none
 | k + 1, x0, x8, x17, x18, x21, x22, x785000, x785001, x785002, x786000, x786001, x786002, x786003, x791000, x791001, x791002 => if x22 < x21 then ((raster_Crop_1.f x22 x8 x785000 x785001 x785002 x786000 x786001 x786002 x786003).bind fun bt791 => (if x791002.length < 4398046511104 then (raster_fill__raster_Crop_1.l1 k x0 x8 x17 x18 x21 (wrap64 (x22 + 1)) x785000 x785001 x785002 x786000 x786001 x786002 x786003 x791000 x791001 (x791002 ++ [(⟨bt791.1, bt791.2.1, bt791.2.2.1, bt791.2.2.2⟩ : S48)])) else (none))) else (raster_fill__raster_Crop_1.l0 k x0 x17 (wrap64 (x18 + 1)) x785000 x785001 x785002 x786000 x786001 x786002 x786003 x791000 x791001 x791002)
end
def raster_fill__raster_Crop_1.f (k : Nat) (a0 : Int) (a1 : Int) (a2_0 : Int) (a2_1 : Int) (l2_2 : List (S48)) (a2_3 : Int) (a2_4 : Int) (a2_5 : Int) (a2_6 : Int) : Option (Int × Int × (List (S48))) := if 0 ≤ (wrap64 (a0 * a1)) then (if (wrap64 (a0 * a1) : Int).toNat ≤ 8796093022208 then (raster_fill__raster_Crop_1.l0 k a0 a1 0 a2_0 a2_1 l2_2 a2_3 a2_4 a2_5 a2_6 a0 a1 (([] : List (S48)))) else (none)) else (none)
theorem raster_fill__raster_Crop_1.mono_l : ∀ k, (∀ y0 y1 y2 y3 y4 y5 y6 y7 y8 y9 y10 y11 y12, LeO (raster_fill__raster_Crop_1.l0 k y0 y1 y2 y3 y4 y5 y6 y7 y8 y9 y10 y11 y12) (raster_fill__raster_Crop_1.l0 (k + 1) y0 y1 y2 y3 y4 y5 y6 y7 y8 y9 y10 y11 y12)) ∧ (∀ y0 y1 y2 y3 y4 y5 y6 y7 y8 y9 y10 y11 y12 y13 y14 y15, LeO (raster_fill__raster_Crop_1.l1 k y0 y1 y2 y3 y4 y5 y6 y7 y8 y9 y10 y11 y12 y13 y14 y15) (raster_fill__raster_Crop_1.l1 (k + 1) y0 y1 y2 y3 y4 y5 y6 y7 y8 y9 y10 y11 y12 y13 y14 y15))
 | 0 => ⟨fun _ _ _ _ _ _ _ _ _ _ _ _ _ r h => by simp [raster_fill__raster_Crop_1.l0] at h, fun _ _ _ _ _ _ _ _ _ _ _ _ _ _ _ _ r h => by simp [raster_fill__raster_Crop_1.l1] at h⟩
 | k + 1 => by
  obtain ⟨ih0, ih1⟩ := raster_fill__raster_Crop_1.mono_l k
  refine ⟨?_, ?_⟩
  ·intro y0 y1 y2 y3 y4 y5 y6 y7 y8 y9 y10 y11 y12
   unfold raster_fill__raster_Crop_1.l0
   repeat' first
   | (with_reducible exact ih0 _ _ _ _ _ _ _ _ _ _ _ _ _)
   | (with_reducible exact ih1 _ _ _ _ _ _ _ _ _ _ _ _ _ _ _ _)
   | (with_reducible exact LeO.refl _)
   | (with_reducible exact LeO.none _)
   | (with_reducible refine LeO.ite ?_ ?_)
   | (with_reducible refine LeO.bind ?_ (fun _ => ?_))
   | exact ih0 _ _ _ _ _ _ _ _ _ _ _ _ _
   | exact ih1 _ _ _ _ _ _ _ _ _ _ _ _ _ _ _ _
   | exact LeO.none _
   | refine LeO.ite ?_ ?_
   | refine LeO.bind ?_ (fun _ => ?_)
  ·intro y0 y1 y2 y3 y4 y5 y6 y7 y8 y9 y10 y11 y12 y13 y14 y15
   unfold raster_fill__raster_Crop_1.l1
   repeat' first
   | (with_reducible exact ih0 _ _ _ _ _ _ _ _ _ _ _ _ _)
   | (with_reducible exact ih1 _ _ _ _ _ _ _ _ _ _ _ _ _ _ _ _)
   | (with_reducible exact LeO.refl _)
   | (with_reducible exact LeO.none _)
   | (with_reducible refine LeO.ite ?_ ?_)
   | (with_reducible refine LeO.bind ?_ (fun _ => ?_))
   | exact ih0 _ _ _ _ _ _ _ _ _ _ _ _ _
   | exact ih1 _ _ _ _ _ _ _ _ _ _ _ _ _ _ _ _
   | exact LeO.none _
   | refine LeO.ite ?_ ?_
   | refine LeO.bind ?_ (fun _ => ?_)
theorem raster_fill__raster_Crop_1.mono : ∀ a0 a1 a2 a3 a4 a5 a6 a7 a8 k, LeO (raster_fill__raster_Crop_1.f k a0 a1 a2 a3 a4 a5 a6 a7 a8) (raster_fill__raster_Crop_1.f (k + 1) a0 a1 a2 a3 a4 a5 a6 a7 a8) := by
 intro a0 a1 a2 a3 a4 a5 a6 a7 a8 k
 obtain ⟨ih0, ih1⟩ := raster_fill__raster_Crop_1.mono_l k
 unfold raster_fill__raster_Crop_1.f
 repeat' first
   | (with_reducible exact ih0 _ _ _ _ _ _ _ _ _ _ _ _ _)
   | (with_reducible exact ih1 _ _ _ _ _ _ _ _ _ _ _ _ _ _ _ _)
   | (with_reducible exact LeO.refl _)
   | (with_reducible exact LeO.none _)
   | (with_reducible refine LeO.ite ?_ ?_)
   | (with_reducible refine LeO.bind ?_ (fun _ => ?_))
   | exact ih0 _ _ _ _ _ _ _ _ _ _ _ _ _
   | exact ih1 _ _ _ _ _ _ _ _ _ _ _ _ _ _ _ _
   | exact LeO.none _
   | refine LeO.ite ?_ ?_
   | refine LeO.bind ?_ (fun _ => ?_)
def raster_fill__raster_Crop_1.T8 : Bool × List (List Nat × List Nat) := (true, [([], []), ([0], [0]), ([], []), ([], []), ([], []), ([2, 3, 4], [2, 3, 4]), ([5], [5]), ([1, 6, 5], [1, 6]), ([0, 1, 2, 3, 4, 5, 6, 7], []), ([8, 7, 7, 0, 1, 2, 3, 4, 5, 6, 7], [7, 8])])
def raster_fill__raster_Crop_1.B8 : List Nat := [0, 1, 0, 0, 0, 28, 60, 127, 255, 511]
theorem raster_fill__raster_Crop_1.tab8 : rtab .any (opsOf Try.f60 8) = raster_fill__raster_Crop_1.T8 := by kernel_rfl
theorem raster_fill__raster_Crop_1.bits8 : waitsOk raster_fill__raster_Crop_1.T8.2 raster_fill__raster_Crop_1.B8 = true := by kernel_rfl
set_option maxHeartbeats 8000000 in
set_option maxRecDepth 100000 in
theorem raster_fill__raster_Crop_1.calls (k : Nat) (a0 : Int) (a1 : Int) (gc2_0 : Nat) (gc2_1 : Nat) (a2_0 : Int) (a2_1 : Int) (A2_2 : Option Addr) (c2_2 : Nat) (l2_2 : List (S48)) (a2_3 : Int) (a2_4 : Int) (a2_5 : Int) (a2_6 : Int) (r1 : Int) (r2 : Int) (r3 : List (S48)) (w : World) (hp2_0 : w.heap[gc2_0]? = some (.cells #[.int .i64 a2_0, .int .i64 a2_1, .slice A2_2 l2_2.length c2_2] 40 (0, 0))) (hp2_1 : w.heap[gc2_1]? = some (.cells #[.int .i64 a2_3, .int .i64 a2_4, .int .i64 a2_5, .int .i64 a2_6] 34 (0, 0))) (hr2_2 : Kd.C k48 w A2_2 l2_2.length l2_2) (hc2_2 : l2_2.length ≤ c2_2) (h : raster_fill__raster_Crop_1.f k a0 a1 a2_0 a2_1 l2_2 a2_3 a2_4 a2_5 a2_6 = some (r1, r2, r3)) :
  Calls Try.prog 60 #[.int .i64 a0, .int .i64 a1, .func (.func 61) #[] #[.pointer (some ⟨gc2_0, 0, none⟩), .pointer (some ⟨gc2_1, 0, none⟩)]] w fun e w' => ∃ v2_ : Value, e = .returned (.agg #[.int .i64 r1, .int .i64 r2, v2_]) ∧ Kd.R k48 48 w' w.heap.size (fun _ => True) v2_ r3 ∧ Below w.heap.size w w' := by
 have hu40 := Try.underlying40
 have HR2_2 := Aside0.mk hr2_2
 have HC2_2 := Aside0.mk hc2_2
 clear hr2_2 hc2_2
 have BK784 := Aside0.mk hp2_0
 have GL784 := Aside0.mk (show gc2_0 < w.heap.size from blk_lt hp2_0)
 clear hp2_0
 have BK785 := Aside0.mk hp2_1
 have GL785 := Aside0.mk (show gc2_1 < w.heap.size from blk_lt hp2_1)
 clear hp2_1
 have HB := Aside0.mk (Below.refl w.heap.size w)
 have H : (if 0 ≤ (wrap64 (a0 * a1)) then (if (wrap64 (a0 * a1) : Int).toNat ≤ 8796093022208 then (raster_fill__raster_Crop_1.l0 k a0 a1 0 a2_0 a2_1 l2_2 a2_3 a2_4 a2_5 a2_6 a0 a1 (([] : List (S48)))) else (none)) else (none)) = some (r1, r2, r3) := h
 clear h
 obtain ⟨ji4, hji4⟩ : ∃ j_ : Int, (wrap64 (a0 * a1)) = j_ := ⟨_, rfl⟩
 replace H : (if 0 ≤ (ji4) then (if (ji4 : Int).toNat ≤ 8796093022208 then (raster_fill__raster_Crop_1.l0 k a0 a1 0 a2_0 a2_1 l2_2 a2_3 a2_4 a2_5 a2_6 a0 a1 (([] : List (S48)))) else (none)) else (none)) = some (r1, r2, r3) := by first | (rw [hji4] at H; exact H) | (simp only [hji4] at H ⊢; exact H)
 have hji4w : (IntKind.i64.wrap (a0 * a1)) = ji4 := (i64_w _).trans hji4
 by_cases c5 : 0 ≤ (ji4)
 ·rw [if_pos c5] at H
  have c5b0 := eq_true c5
  have c5b1 : decide (0 ≤ (ji4)) = true := decide_eq_true c5
  clear c5
  by_cases c6 : (ji4 : Int).toNat ≤ 8796093022208
  ·rw [if_pos c6] at H
   have c6b0 := eq_true c6
   have c6b1 : decide ((ji4 : Int).toNat ≤ 8796093022208) = true := decide_eq_true c6
   clear c6
   obtain ⟨y787, hy787⟩ : ∃ y_ : List (S48), y_ = (([] : List (S48))) := ⟨_, rfl⟩
   replace H : (raster_fill__raster_Crop_1.l0 k a0 a1 0 a2_0 a2_1 l2_2 a2_3 a2_4 a2_5 a2_6 a0 a1 y787) = some (r1, r2, r3) := by first | (rw [hy787]; with_reducible exact H) | (have H2_ := (Option.bind_some _ _).symm.trans H; rw [hy787]; with_reducible exact H2_) | (have H2_ := (Option.bind_some _ _).symm.trans H; with_reducible exact H2_) | with_reducible exact H | (rw [hy787]; exact H) | exact H
   have Ny787 := Aside0.mk hy787
   clear hy787
   have H' := Aside0.mk H
   clear H
   go_enter Try.func60, Try.ntmps60
   go_wp2_with (first | ((with_reducible refine gate_dst (N := 6) rfl ?_); refine box_event ?hg (N := 6) ?hd (cs := #[.int .i64 0, .int .i64 0, .slice none 0 0]) (t := 40) ?hr ?_; (case hd => rfl); (case hg => rfl); (case hr => first | (go_simp; done) | (go_simp; rfl)); intro gb786 hg w7 hbox hb; have GW786 := zg HB hg; have GE786 := zg HB hg; have NB784_786 := zn BK784 hg; have NB786_784 := zn' BK784 hg; have NB785_786 := zn BK785 hg; have NB786_785 := zn' BK785 hg; have n0_ := Aside0.mk (hbox); replace BK784 := zk BK784 hb; replace BK785 := zk BK785 hb; replace HB := zb HB hb; have BK786 := n0_; clear n0_; clear hb hbox hg) | ((with_reducible refine gate_dst (N := 15) rfl ?_); refine Kd.R_make0 k48 _ 48 rfl (N := 15) rfl 38 _ _ rfl ji4 rfl rfl Try.underlying38 (.agg #[(.int .i64 0), (.int .i64 0), (.int .i64 0), (.int .i64 0)]) 32 info48 rfl (by decide) (by omega) z48 (ok := fun _ => True) (okp := fun _ => True) (k48_mkM _ _ _ z48 ) (fun _ hk => hk) trivial (of_decide_eq_true (by first | (with_reducible assumption) | assumption)) (Nat.le_trans (Nat.mul_le_mul_right _ (of_decide_eq_true (by first | (with_reducible assumption) | assumption) : ji4.toNat ≤ 8796093022208)) (by omega)) (Below.refl _ _) (Nat.le_refl _) ?_; intro v788 w8 ho9 hb hg_ hnew_; clear hg_ hnew_; (first | rw [← Ny787.out] at ho9 | (simp only [Int.reduceToNat] at ho9; rw [← Ny787.out] at ho9)); have HO789 := zl HB ho9; replace BK784 := zk BK784 hb; replace BK785 := zk BK785 hb; replace BK786 := zk BK786 hb; replace HB := zb HB hb; clear hb ho9; obtain ⟨Ao10, co10, eo10⟩ := Kd.R_slice HO789.out; subst eo10) | ((with_reducible refine gate_dst (N := 7) rfl ?_); refine box_event ?hg (N := 7) ?hd (cs := #[.int .i64 0, .int .i64 0, .slice none 0 0]) (t := 40) ?hr ?_; (case hd => rfl); (case hg => rfl); (case hr => first | (go_simp; done) | (go_simp; rfl)); intro gb790 hg w11 hbox hb; have GW790 := zg HB hg; have GE790 := zg HB hg; have NB784_790 := zn BK784 hg; have NB790_784 := zn' BK784 hg; have NB785_790 := zn BK785 hg; have NB790_785 := zn' BK785 hg; have NB786_790 := zn BK786 hg; have NB790_786 := zn' BK786 hg; have n0_ := Aside0.mk (hbox); replace HO789 := zr HO789 hb; replace BK784 := zk BK784 hb; replace BK785 := zk BK785 hb; replace BK786 := zk BK786 hb; replace HB := zb HB hb; have BK790 := n0_; clear n0_; clear hb hbox hg; have hnb12 := NB790_784.out; have hnc12 := NB784_790.out; have hnb13 := NB790_785.out; have hnc13 := NB785_790.out; have hnb14 := NB790_786.out; have hnc14 := NB786_790.out; obtain ⟨hcz15_0, hcz15_1, hcz15_2, hfz15_0, hfz15_1, hfz15_2⟩ := zq3 BK790))
   (try simp only [Act.put, sA, sB, sC])
   go_loopg [18] k (fun kq v18 w' => ∃ (x18_1 : Int) (x791002_1 : List (S48)) (u791002 : Value), v18 = .int .i64 x18_1 ∧ Aside0 (raster_fill__raster_Crop_1.l0 kq a0 a1 x18_1 a2_0 a2_1 l2_2 a2_3 a2_4 a2_5 a2_6 a0 a1 x791002_1 = some (r1, r2, r3)) ∧ Aside0 (kq ≤ k) ∧ Aside0 (Kd.R k48 48 w' w.heap.size (fun _ => True) u791002 x791002_1) ∧ Aside0 (w'.heap[gc2_0]? = some (.cells #[.int .i64 a2_0, .int .i64 a2_1, (.slice A2_2 l2_2.length c2_2)] 40 (0, 0))) ∧ Aside0 (w'.heap[gc2_1]? = some (.cells #[.int .i64 a2_3, .int .i64 a2_4, .int .i64 a2_5, .int .i64 a2_6] 34 (0, 0))) ∧ Aside0 (w'.heap[gb786]? = some (.cells #[.int .i64 0, .int .i64 0, (.slice none 0 0)] 40 (0, 0))) ∧ Aside0 (w'.heap[gb790]? = some (.cells #[.int .i64 a0, .int .i64 a1, u791002] 40 (0, 0))) ∧ Aside0 (Below w.heap.size w w'))
   case atStart => exact ⟨(0), (y787), (.slice Ao10 y787.length co10), (by first | rfl | (simp; done) | (simp [*]; done)), H', ⟨Nat.le_refl _⟩, ⟨by exact zro HO789 BK790 (by decide)⟩, ⟨by exact zf BK784 NB784_790⟩, ⟨by exact zf BK785 NB785_790⟩, ⟨by exact zf BK786 NB786_790⟩, ⟨by exact zp BK790 rfl⟩, ⟨by exact zbo HB GE790⟩⟩
   case round =>
    clear H'
    try clear c1
    try clear c2
    try clear p2
    try clear q3
    try clear c5
    try clear c5b0
    try clear c5b1
    try clear c6
    try clear c6b0
    try clear c6b1
    try clear p6
    try clear c12
    try clear c13
    try clear c14
    try clear hcz15_0
    try clear hcz15_1
    try clear hcz15_2
    try clear hfz15_0
    try clear hfz15_1
    try clear hfz15_2
    obtain ⟨x18_1, x791002_1, u791002, rfl, HA, HK1, HO_791002, BK784, BK785, BK786, BK790, HB⟩ := hrel
    cases gk with
    | zero => exact absurd HA.out (by simp [raster_fill__raster_Crop_1.l0])
    | succ k1 =>
     have H := HA.out
     clear HA
     simp only [raster_fill__raster_Crop_1.l0] at H
     by_cases c16 : x18_1 < a1
     ·rw [if_pos c16] at H
      have c16b0 : decide (x18_1 < a1) = true := decide_eq_true c16
      clear c16
      have H' := Aside0.mk H
      clear H
      go_wp2
      go_loopg [22] k1 (fun kq v22 w' => ∃ (x22_2 : Int) (x791002_2 : List (S48)) (u791002 : Value), v22 = .int .i64 x22_2 ∧ Aside0 (raster_fill__raster_Crop_1.l1 kq a0 x18_1 a1 x18_1 a0 x22_2 a2_0 a2_1 l2_2 a2_3 a2_4 a2_5 a2_6 a0 a1 x791002_2 = some (r1, r2, r3)) ∧ Aside0 (kq ≤ k1) ∧ Aside0 (Kd.R k48 48 w' w.heap.size (fun _ => True) u791002 x791002_2) ∧ Aside0 (w'.heap[gc2_0]? = some (.cells #[.int .i64 a2_0, .int .i64 a2_1, (.slice A2_2 l2_2.length c2_2)] 40 (0, 0))) ∧ Aside0 (w'.heap[gc2_1]? = some (.cells #[.int .i64 a2_3, .int .i64 a2_4, .int .i64 a2_5, .int .i64 a2_6] 34 (0, 0))) ∧ Aside0 (w'.heap[gb786]? = some (.cells #[.int .i64 0, .int .i64 0, (.slice none 0 0)] 40 (0, 0))) ∧ Aside0 (w'.heap[gb790]? = some (.cells #[.int .i64 a0, .int .i64 a1, u791002] 40 (0, 0))) ∧ Aside0 (Below w.heap.size w w'))
      case atStart => exact ⟨(0), (x791002_1), (u791002), (by first | rfl | (simp; done) | (simp [*]; done)), H', ⟨Nat.le_refl _⟩, ⟨by exact zr0 HO_791002⟩, ⟨by exact zk0 BK784⟩, ⟨by exact zk0 BK785⟩, ⟨by exact zk0 BK786⟩, ⟨by exact zk0 BK790⟩, ⟨by exact zb0 HB⟩⟩
      case round =>
       clear H'
       try clear c1
       try clear c2
       try clear p2
       try clear q3
       try clear c5
       try clear c5b0
       try clear c5b1
       try clear c6
       try clear c6b0
       try clear c6b1
       try clear p6
       try clear c12
       try clear c13
       try clear c14
       try clear c16
       try clear c16b0
       try clear hcz15_0
       try clear hcz15_1
       try clear hcz15_2
       try clear hfz15_0
       try clear hfz15_1
       try clear hfz15_2
       try clear p2
       try clear p6
       try clear q3
       obtain ⟨x22_2, x791002_2, u791002, rfl, HA, HK2, HO_791002, BK784, BK785, BK786, BK790, HB⟩ := hrel
       cases gk with
       | zero => exact absurd HA.out (by simp [raster_fill__raster_Crop_1.l1])
       | succ k2 =>
        have H := HA.out
        clear HA
        simp only [raster_fill__raster_Crop_1.l1] at H
        by_cases c17 : x22_2 < a0
        ·rw [if_pos c17] at H
         have c17b0 : decide (x22_2 < a0) = true := decide_eq_true c17
         clear c17
         replace H := Option.bind_eq_some_iff.mp H
         obtain ⟨⟨t791, t792, t793, t794⟩, A180, H⟩ := H
         replace H : (if x791002_2.length < 4398046511104 then (raster_fill__raster_Crop_1.l1 k2 a0 x18_1 a1 x18_1 a0 (wrap64 (x22_2 + 1)) a2_0 a2_1 l2_2 a2_3 a2_4 a2_5 a2_6 a0 a1 (x791002_2 ++ [(⟨t791, t792, t793, t794⟩ : S48)])) else (none)) = some (r1, r2, r3) := H
         have A18 := Aside0.mk A180
         clear A180
         by_cases c19 : x791002_2.length < 4398046511104
         ·rw [if_pos c19] at H
          have LMc19 := Aside0.mk c19
          clear c19
          obtain ⟨y795, hy795⟩ : ∃ y_ : List (S48), y_ = (x791002_2 ++ [(⟨t791, t792, t793, t794⟩ : S48)]) := ⟨_, rfl⟩
          replace H : (raster_fill__raster_Crop_1.l1 k2 a0 x18_1 a1 x18_1 a0 (wrap64 (x22_2 + 1)) a2_0 a2_1 l2_2 a2_3 a2_4 a2_5 a2_6 a0 a1 y795) = some (r1, r2, r3) := by first | (rw [hy795]; with_reducible exact H) | (have H2_ := (Option.bind_some _ _).symm.trans H; rw [hy795]; with_reducible exact H2_) | (have H2_ := (Option.bind_some _ _).symm.trans H; with_reducible exact H2_) | with_reducible exact H | (rw [hy795]; exact H) | exact H
          have Ny795 := Aside0.mk hy795
          clear hy795
          have H' := Aside0.mk H
          clear H
          try go_wp2
          replace HO_791002 := zrd HO_791002
          replace BK784 := zkd BK784
          replace BK785 := zkd BK785
          replace BK786 := zkd BK786
          replace BK790 := zkd BK790
          replace HB := zbd HB
          refine start_ (n := 10) (S := fun w' => w'.cell? ⟨gb790, 0, none⟩ = some (.int .i64 a0) ∧ w'.cell? ⟨gb790, 1, none⟩ = some (.int .i64 a1) ∧ w'.cell? ⟨gb790, 2, none⟩ = some (u791002)) (ds := [9]) (bs 10 0) (by kernel_rfl) rfl rfl ⟨(blk_cell BK790.out 0).trans rfl, (blk_cell BK790.out 1).trans rfl, (blk_cell BK790.out 2).trans rfl⟩ (fun hHeld => ?_); refine with_tabW raster_fill__raster_Crop_1.tab8 raster_fill__raster_Crop_1.bits8 (fun HT_ HW_ => ?_)
          generalize wr.drew = w20 at HO_791002 BK784 BK785 BK786 BK790 HB hHeld ⊢
          refine pure_ (i := 0) (N := some 25) (v := ?_) (a' := ?_) (bs 10 1) rfl rfl (any_of HT_.out (by kernel_rfl)) (fun _ _ _ h => h) (Or.inl ⟨by rfl, ?_⟩) ?_ ?_
          rotate_left
          ·intro w'
           go_simp
           with_reducible rfl
          rotate_left
          ·simp only [Act.put, sA, sB, sC, i64_w, i32_w]
           rfl
          refine pure_ (i := 2) (N := some 27) (v := ?_) (a' := ?_) (bs 10 5) rfl rfl (any_of HT_.out (by kernel_rfl)) (fun _ _ _ h => h) (Or.inl ⟨by rfl, ?_⟩) ?_ ?_
          rotate_left
          ·intro w'
           go_simp
           with_reducible rfl
          rotate_left
          ·simp only [Act.put, sA, sB, sC, i64_w, i32_w]
           rfl
          refine pure_ (i := 3) (N := some 28) (v := ?_) (a' := ?_) (bs 10 13) rfl rfl (any_of HT_.out (by kernel_rfl)) (fun _ _ _ h => h) (Or.inl ⟨by rfl, ?_⟩) ?_ ?_
          rotate_left
          ·intro w'
           go_simp
           with_reducible rfl
          rotate_left
          ·simp only [Act.put, sA, sB, sC, i64_w, i32_w]
           rfl
          refine pure_ (i := 4) (N := some 29) (v := ?_) (a' := ?_) (bs 10 29) rfl rfl (any_of HT_.out (by kernel_rfl)) (fun _ _ _ h => h) (Or.inl ⟨by rfl, ?_⟩) ?_ ?_
          rotate_left
          ·intro w'
           go_simp
           with_reducible rfl
          rotate_left
          ·simp only [Act.put, sA, sB, sC, i64_w, i32_w]
           rfl
          refine take_ (i := 1) (N := some 26) (v := ?_) (a' := ?_) (bs 10 31) rfl rfl (take_ofW HT_.out HW_.out (by kernel_rfl)) (fun _ _ _ h => h) (Or.inl ⟨by rfl, ?_⟩) hHeld ?_ ?_
          rotate_left
          ·rintro w' ⟨s0, s1, s2⟩
           go_simp
           with_reducible rfl
          rotate_left
          ·simp only [Act.put, sA, sB, sC, i64_w, i32_w]
           rfl
          refine one_ (i := 5) (N := some 30) (bs 10 63) rfl rfl (one_of HT_.out (by kernel_rfl)) (by decide) (fun K hK => ?_)
          refine goesT_ (t := 27) Try.func61 (by kernel_rfl) rfl #[.pointer (some ⟨gc2_0, 0, none⟩), .pointer (some ⟨gc2_1, 0, none⟩)] #[.int .i64 x22_2, .int .i64 x18_1, .pointer (some ⟨gc2_0, 0, none⟩), .pointer (some ⟨gc2_1, 0, none⟩)] (by rfl) rfl rfl (by first | rfl | (go_simp; done) | (go_simp; rfl)) (by (try simp only [List.map_toArray, List.map_cons, List.map_nil]); first | done | rfl | (go_simp; done) | (go_simp; rfl)) ?_
          with_reducible refine (raster_Crop_1.calls x22_2 x18_1 gc2_0 a2_0 a2_1 A2_2 c2_2 l2_2 gc2_1 a2_3 a2_4 a2_5 a2_6 t791 t792 t793 t794 _ ?side1 ?side2 ?side3 ?side4 A18.out).mono ?_
          (case side1 => exact zk0 BK784)
          (case side2 => repeat (first | exact (Kd.C_below HR2_2.out HB.out) | (with_reducible refine Kd.C_alloc ?_ _) | (with_reducible refine Kd.C_drewN ?_ _) | (with_reducible refine Kd.C_drew ?_)))
          (case side3 => exact HC2_2.out)
          (case side4 => exact zk0 BK785)
          rintro e w21 ⟨rfl, hb⟩
          refine ⟨_, rfl, ?_⟩
          replace HO_791002 := zr HO_791002 hb
          replace BK784 := zk BK784 hb
          replace BK785 := zk BK785 hb
          replace BK786 := zk BK786 hb
          replace BK790 := zk BK790 hb
          replace HB := zb HB hb
          (try clear hb)
          (try clear hb2)
          (try clear hk)
          (try clear hi)
          refine hK.out _ _ ⟨(blk_cell BK790.out 0).trans rfl, (blk_cell BK790.out 1).trans rfl, (blk_cell BK790.out 2).trans rfl⟩ (fun hHeld => ?_)
          clear hK K
          refine norm_ (a' := ?_) ?_ ?_
          rotate_left
          ·show Act.put _ (some 30) _ = _
           simp only [Act.put, sA, sB, sC, i64_w, i32_w]
           rfl
          refine one_ (i := 6) (N := some 31) (bs 10 127) rfl rfl (one_of HT_.out (by kernel_rfl)) (by decide) (fun K hK => ?_)
          refine value_ (w1 := ?_) (v := ?_) (by rfl) rfl ?_ ?_
          rotate_left 2
          ·go_simp
           constructor
           ·rfl
           ·rfl
          refine hK.out _ _ ⟨(blk_cell (blk_alloc BK790.out _) 0).trans rfl, (blk_cell (blk_alloc BK790.out _) 1).trans rfl, (blk_cell (blk_alloc BK790.out _) 2).trans rfl⟩ (fun hHeld => ?_)
          clear hK K
          refine norm_ (a' := ?_) ?_ ?_
          rotate_left
          ·show Act.put _ (some 31) _ = _
           simp only [Act.put, sA, sB, sC, i64_w, i32_w]
           rfl
          refine one_ (i := 7) (N := some 32) (bs 10 255) rfl rfl (one_of HT_.out (by kernel_rfl)) (by decide) (fun K hK => ?_)
          refine Kd.R_append_step k48 (w0 := w) w.heap.size (by rfl) (.tmp 26) (.tmp 31) 38 48 (.agg #[(.int .i64 0), (.int .i64 0), (.int .i64 0), (.int .i64 0)]) 32 rfl Try.underlying38 info48 rfl (by decide) (by omega) u791002 x791002_2 (⟨t791, t792, t793, t794⟩ : S48) [.int .i64 t791, .int .i64 t792, .int .i64 t793, .int .i64 t794] (fun _ => True) (fun _ => False) rfl rfl ?aP (fun _ hk => hk.elim) ?aF ?aO ?aB ?aS ?aL ?_
          (case aP => exact k48_mkM _ _ _ (⟨t791, t792, t793, t794⟩ : S48))
          (case aB => exact (by exact zb0 HB))
          (case aF => exact (fun _ _ => trivial))
          (case aO => exact (by exact zr0 HO_791002))
          (case aS => exact (below_size (by exact zb0 HB)))
          (case aL => have := LMc19.out; omega)
          intro v796 w22 ho hb hg hat
          rw [← Ny795.out] at ho
          have n0_ := Aside0.mk (blk_grown (zk0 BK784) hg (fun e_ => Nat.not_le.2 GL784.out (Kd.R_base HO_791002.out _ e_.symm)))
          have n1_ := Aside0.mk (blk_grown (zk0 BK785) hg (fun e_ => Nat.not_le.2 GL785.out (Kd.R_base HO_791002.out _ e_.symm)))
          have n2_ := Aside0.mk (blk_grown (zk0 BK786) hg (Kd.R_ne HO_791002.out BK786.out (by decide)))
          have n3_ := Aside0.mk (blk_grown (zk0 BK790) hg (Kd.R_ne HO_791002.out BK790.out (by decide)))
          have n4_ := Aside0.mk (hb)
          have n5_ := Aside0.mk (ho)
          clear BK784
          clear BK785
          clear BK786
          clear BK790
          clear HB
          clear HO_791002
          have BK784 := n0_
          have BK785 := n1_
          have BK786 := n2_
          have BK790 := n3_
          have HB := n4_
          have HO797 := n5_
          clear n0_ n1_ n2_ n3_ n4_ n5_
          clear ho hb hg hat
          obtain ⟨Ao23, co23, eo23⟩ := Kd.R_slice HO797.out
          (first | subst eo23 | (injection eo23 with f1_ f2_ f3_; have f4_ := f1_.symm; have f5_ := f3_.symm; clear f1_ f2_ f3_; subst f4_; subst f5_))
          refine hK.out _ _ ⟨(blk_cell BK790.out 0).trans rfl, (blk_cell BK790.out 1).trans rfl, (blk_cell BK790.out 2).trans rfl⟩ (fun hHeld => ?_)
          clear hK K
          refine norm_ (a' := ?_) ?_ ?_
          rotate_left
          ·show Act.put _ (some 32) _ = _
           simp only [Act.put, sA, sB, sC, i64_w, i32_w]
           rfl
          refine pure_ (i := 8) (N := some 33) (v := ?_) (a' := ?_) (bs 10 511) rfl rfl (any_of HT_.out (by kernel_rfl)) (fun _ _ _ h => h) (Or.inl ⟨by rfl, ?_⟩) ?_ ?_
          rotate_left
          ·intro w'
           go_simp
           with_reducible rfl
          rotate_left
          ·simp only [Act.put, sA, sB, sC, i64_w, i32_w]
           rfl
          refine last_ (i := 9) (N := none) (bs 10 1023) rfl rfl (one_of HT_.out (by kernel_rfl)) (by decide) (fun K hK => ?_)
          have hs24 : w22.cell? ⟨gb790, 2, none⟩ = some (u791002) := (blk_cell BK790.out 2).trans rfl
          have hfs24 := blk_frozen BK790.out 2
          have hns24_0 := NB784_790.out
          have hns24_1 := NB785_790.out
          have hns24_2 := NB786_790.out
          have hms24_0 := NB790_784.out
          have hms24_1 := NB790_785.out
          have hms24_2 := NB790_786.out
          refine skip_ (w1 := ?_) (by rfl) rfl ?_ ?_
          rotate_left
          ·go_simp
           rfl
          refine hK.out _ _ ?_
          clear hK K
          refine done_ (done_of HT_.out (by kernel_rfl)) ?_
          try go_wp2
          first | go_roundg k2 | ((try subst hji4); go_roundg k2)
          case measure => have := HK1.out; have := HK2.out; omega
          case rel => first | (exact ⟨(wrap64 (x22_2 + 1)), (y795), (.slice Ao23 y795.length co23), (by first | rfl | (simp; done) | (simp [*]; done)), H', ⟨by have := HK1.out; have := HK2.out; omega⟩, ⟨by exact zro HO797 BK790 (by decide)⟩, ⟨by exact zf BK784 NB784_790⟩, ⟨by exact zf BK785 NB785_790⟩, ⟨by exact zf BK786 NB786_790⟩, ⟨by exact zp BK790 rfl⟩, ⟨by exact zbo HB GE790⟩⟩) | (exact ⟨(wrap64 (x22_2 + 1)), (y795), (.slice Ao23 y795.length co23), (by first | rfl | (simp; done) | (simp [*]; done)), H', ⟨by have := HK1.out; have := HK2.out; omega⟩, ⟨by exact zro HO797 BK790 (by decide)⟩, ⟨by exact zf BK784 NB784_790⟩, ⟨by exact zf BK785 NB785_790⟩, ⟨by exact zf BK786 NB786_790⟩, ⟨by exact zp BK790 rfl⟩, ⟨by exact zbo HB GE790⟩⟩)
         ·rw [if_neg c19] at H
          exact absurd H (by simp)
        ·rw [if_neg c17] at H
         have c17b0 : decide (x22_2 < a0) = false := decide_eq_false c17
         clear c17
         have H' := Aside0.mk H
         clear H
         go_wp2
         first | go_roundg k2 | ((try subst hji4); go_roundg k2)
         case measure => have := HK1.out; have := HK2.out; omega
         case rel => first | (exact ⟨(wrap64 (x18_1 + 1)), (x791002_2), (u791002), (by first | rfl | (simp; done) | (simp [*]; done)), H', ⟨by have := HK1.out; have := HK2.out; omega⟩, ⟨by exact zr0 HO_791002⟩, ⟨by exact zk0 BK784⟩, ⟨by exact zk0 BK785⟩, ⟨by exact zk0 BK786⟩, ⟨by exact zk0 BK790⟩, ⟨by exact zb0 HB⟩⟩) | (exact ⟨(wrap64 (x18_1 + 1)), (x791002_2), (u791002), (by first | rfl | (simp; done) | (simp [*]; done)), H', ⟨by have := HK1.out; have := HK2.out; omega⟩, ⟨by exact zr0 HO_791002⟩, ⟨by exact zk0 BK784⟩, ⟨by exact zk0 BK785⟩, ⟨by exact zk0 BK786⟩, ⟨by exact zk0 BK790⟩, ⟨by exact zb0 HB⟩⟩)
     ·rw [if_neg c16] at H
      have c16b0 : decide (x18_1 < a1) = false := decide_eq_false c16
      clear c16
      simp only [Option.some.injEq, Prod.mk.injEq] at H
      obtain ⟨rfl, rfl, rfl⟩ := H
      have hnb25 := NB790_784.out
      have hnc25 := NB784_790.out
      have hnb26 := NB790_785.out
      have hnc26 := NB785_790.out
      have hnb27 := NB790_786.out
      have hnc27 := NB786_790.out
      obtain ⟨hcz28_0, hcz28_1, hcz28_2, hfz28_0, hfz28_1, hfz28_2⟩ := zq3 BK790
      have hnb29 := NB786_784.out
      have hnc29 := NB784_786.out
      have hnb30 := NB786_785.out
      have hnc30 := NB785_786.out
      obtain ⟨hcz31_0, hcz31_1, hcz31_2, hfz31_0, hfz31_1, hfz31_2⟩ := zq3 BK786
      obtain ⟨Ao32, co32, eo32⟩ := Kd.R_slice HO_791002.out
      subst eo32
      go_wp2
      refine bodyPost_ret (results_cell_row rfl _ _ gb786 40 #[.int .i64 a0, .int .i64 a1, .slice Ao32 x791002_1.length co32] (0, 0) _ rfl (by exact zp BK786 rfl) Try.underlying40 rfl (by kernel_rfl)) rfl ?_
      exact ⟨_, by first | rfl | (simp [errW_none, errW_some] <;> rfl) | (simp only [← hji4]; first | rfl | (simp [errW_none, errW_some] <;> rfl)) | (simp [*, errW_none, errW_some] <;> rfl), by exact zro HO_791002 BK786 (by decide), by exact zbo HB GE786⟩
  ·rw [if_neg c6] at H
   exact absurd H (by simp)
 ·rw [if_neg c5] at H
  exact absurd H (by simp)

/-! ### raster_Crop: function 24 -/
def raster_Crop.j0 : Nat → Bool → Int → Int → List (S48) → Int → Int → Int → Int → Option (Int × Int × (List (S48)) × Int)
 | 0, _, _, _, _, _, _, _, _ => none
 | k + 1, x24, x799000, x799001, x799002, x800000, x800001, x800002, x800003 => if x24 = true then (some (0, 0, ([] : List (S48)), 15)) else ((rect_Empty.f x800000 x800001 x800002 x800003).bind fun t803 => (if t803 = true then (some (0, 0, ([] : List (S48)), 0)) else ((raster_fill__raster_Crop_1.f k x800002 x800003 x799000 x799001 x799002 x800000 x800001 x800002 x800003).bind fun bt804 => (some (bt804.1, bt804.2.1, bt804.2.2, 0)))))
def raster_Crop.f (k : Nat) (a0_0 : Int) (a0_1 : Int) (l0_2 : List (S48)) (a1_0 : Int) (a1_1 : Int) (a1_2 : Int) (a1_3 : Int) : Option (Int × Int × (List (S48)) × Int) := (raster_Check.f k a0_0 a0_1 l0_2).bind fun t801 => (if t801 = 0 then ((rect_Valid.f a1_0 a1_1 a1_2 a1_3).bind fun t802 => (if t802 = true then (if a1_2 > 256 then (raster_Crop.j0 k true a0_0 a0_1 l0_2 a1_0 a1_1 a1_2 a1_3) else (raster_Crop.j0 k (decide (a1_3 > 256)) a0_0 a0_1 l0_2 a1_0 a1_1 a1_2 a1_3)) else (some (0, 0, ([] : List (S48)), 2)))) else (some (0, 0, ([] : List (S48)), t801)))
theorem raster_Crop.mono_l : ∀ k, (∀ y0 y1 y2 y3 y4 y5 y6 y7, LeO (raster_Crop.j0 k y0 y1 y2 y3 y4 y5 y6 y7) (raster_Crop.j0 (k + 1) y0 y1 y2 y3 y4 y5 y6 y7))
 | 0 => fun _ _ _ _ _ _ _ _ r h => by simp [raster_Crop.j0] at h
 | k + 1 => by
  have ih0 := raster_Crop.mono_l k
  ·intro y0 y1 y2 y3 y4 y5 y6 y7
   unfold raster_Crop.j0
   repeat' first
   | (with_reducible exact ih0 _ _ _ _ _ _ _ _)
   | (with_reducible exact raster_Check.mono _ _ _ _)
   | (with_reducible exact raster_fill__raster_Crop_1.mono _ _ _ _ _ _ _ _ _ _)
   | (with_reducible exact LeO.refl _)
   | (with_reducible exact LeO.none _)
   | (with_reducible refine LeO.ite ?_ ?_)
   | (with_reducible refine LeO.bind ?_ (fun _ => ?_))
   | exact ih0 _ _ _ _ _ _ _ _
   | exact raster_Check.mono _ _ _ _
   | exact raster_fill__raster_Crop_1.mono _ _ _ _ _ _ _ _ _ _
   | exact LeO.none _
   | refine LeO.ite ?_ ?_
   | refine LeO.bind ?_ (fun _ => ?_)
theorem raster_Crop.mono : ∀ a0 a1 a2 a3 a4 a5 a6 k, LeO (raster_Crop.f k a0 a1 a2 a3 a4 a5 a6) (raster_Crop.f (k + 1) a0 a1 a2 a3 a4 a5 a6) := by
 intro a0 a1 a2 a3 a4 a5 a6 k
 have ih0 := raster_Crop.mono_l k
 unfold raster_Crop.f
 repeat' first
   | (with_reducible exact ih0 _ _ _ _ _ _ _ _)
   | (with_reducible exact raster_Check.mono _ _ _ _)
   | (with_reducible exact raster_fill__raster_Crop_1.mono _ _ _ _ _ _ _ _ _ _)
   | (with_reducible exact LeO.refl _)
   | (with_reducible exact LeO.none _)
   | (with_reducible refine LeO.ite ?_ ?_)
   | (with_reducible refine LeO.bind ?_ (fun _ => ?_))
   | exact ih0 _ _ _ _ _ _ _ _
   | exact raster_Check.mono _ _ _ _
   | exact raster_fill__raster_Crop_1.mono _ _ _ _ _ _ _ _ _ _
   | exact LeO.none _
   | refine LeO.ite ?_ ?_
   | refine LeO.bind ?_ (fun _ => ?_)
set_option maxHeartbeats 8000000 in
set_option maxRecDepth 100000 in
theorem raster_Crop.calls (k : Nat) (a0_0 : Int) (a0_1 : Int) (A0_2 : Option Addr) (c0_2 : Nat) (l0_2 : List (S48)) (a1_0 : Int) (a1_1 : Int) (a1_2 : Int) (a1_3 : Int) (r1 : Int) (r2 : Int) (r3 : List (S48)) (r4 : Int) (w : World) (hr0_2 : Kd.C k48 w A0_2 l0_2.length l0_2) (hc0_2 : l0_2.length ≤ c0_2) (h : raster_Crop.f k a0_0 a0_1 l0_2 a1_0 a1_1 a1_2 a1_3 = some (r1, r2, r3, r4)) :
  Calls Try.prog 24 #[.agg #[.int .i64 a0_0, .int .i64 a0_1, .slice A0_2 l0_2.length c0_2], .agg #[.int .i64 a1_0, .int .i64 a1_1, .int .i64 a1_2, .int .i64 a1_3]] w fun e w' => ∃ v2_ : Value, e = .returned (.tuple #[.agg #[.int .i64 r1, .int .i64 r2, v2_], .int .i64 r4]) ∧ Kd.R k48 48 w' w.heap.size (fun _ => True) v2_ r3 ∧ Below w.heap.size w w' := by
 have hu40 := Try.underlying40
 have hu34 := Try.underlying34
 have HR0_2 := Aside0.mk hr0_2
 have HC0_2 := Aside0.mk hc0_2
 clear hr0_2 hc0_2
 have HB := Aside0.mk (Below.refl w.heap.size w)
 have H : ((raster_Check.f k a0_0 a0_1 l0_2).bind fun t801 => (if t801 = 0 then ((rect_Valid.f a1_0 a1_1 a1_2 a1_3).bind fun t802 => (if t802 = true then (if a1_2 > 256 then (raster_Crop.j0 k true a0_0 a0_1 l0_2 a1_0 a1_1 a1_2 a1_3) else (raster_Crop.j0 k (decide (a1_3 > 256)) a0_0 a0_1 l0_2 a1_0 a1_1 a1_2 a1_3)) else (some (0, 0, ([] : List (S48)), 2)))) else (some (0, 0, ([] : List (S48)), t801)))) = some (r1, r2, r3, r4) := h
 clear h
 replace H := Option.bind_eq_some_iff.mp H
 obtain ⟨t801, A30, H⟩ := H
 replace H : (if t801 = 0 then ((rect_Valid.f a1_0 a1_1 a1_2 a1_3).bind fun t802 => (if t802 = true then (if a1_2 > 256 then (raster_Crop.j0 k true a0_0 a0_1 l0_2 a1_0 a1_1 a1_2 a1_3) else (raster_Crop.j0 k (decide (a1_3 > 256)) a0_0 a0_1 l0_2 a1_0 a1_1 a1_2 a1_3)) else (some (0, 0, ([] : List (S48)), 2)))) else (some (0, 0, ([] : List (S48)), t801))) = some (r1, r2, r3, r4) := H
 have A3 := Aside0.mk A30
 clear A30
 by_cases c4 : t801 = 0
 ·rw [if_pos c4] at H
  have c4b0 : (t801 == 0) = true := beq_iff_eq.mpr c4
  have c4b1 : (t801 != 0) = false := bne_eq_false_iff_eq.mpr c4
  clear c4
  replace H := Option.bind_eq_some_iff.mp H
  obtain ⟨t802, A50, H⟩ := H
  replace H : (if t802 = true then (if a1_2 > 256 then (raster_Crop.j0 k true a0_0 a0_1 l0_2 a1_0 a1_1 a1_2 a1_3) else (raster_Crop.j0 k (decide (a1_3 > 256)) a0_0 a0_1 l0_2 a1_0 a1_1 a1_2 a1_3)) else (some (0, 0, ([] : List (S48)), 2))) = some (r1, r2, r3, r4) := H
  have A5 := Aside0.mk A50
  clear A50
  by_cases c6 : t802 = true
  ·subst c6
   have H1 : (if a1_2 > 256 then (raster_Crop.j0 k true a0_0 a0_1 l0_2 a1_0 a1_1 a1_2 a1_3) else (raster_Crop.j0 k (decide (a1_3 > 256)) a0_0 a0_1 l0_2 a1_0 a1_1 a1_2 a1_3)) = some (r1, r2, r3, r4) := by rw [if_pos rfl] at H; exact H
   clear H
   have H := H1
   clear H1
   have HC7 := Aside0.mk H
   clear H
   go_enter Try.func24, Try.ntmps24
   go_upto_region 6 with (first | ((with_reducible refine gate_dst (N := 2) rfl ?_); refine box_event ?hg (N := 2) ?hd (cs := #[.int .i64 a0_0, .int .i64 a0_1, .slice A0_2 l0_2.length c0_2]) (t := 40) ?hr ?_; (case hd => rfl); (case hg => rfl); (case hr => first | (go_simp; done) | (go_simp; rfl)); intro gb798 hg w8 hbox hb; have GW798 := zg HB hg; have GE798 := zg HB hg; have n0_ := Aside0.mk (hbox); replace HB := zb HB hb; have BK798 := n0_; clear n0_; clear hb hbox hg) | ((with_reducible refine gate_dst (N := 3) rfl ?_); refine box_event ?hg (N := 3) ?hd (cs := #[.int .i64 a1_0, .int .i64 a1_1, .int .i64 a1_2, .int .i64 a1_3]) (t := 34) ?hr ?_; (case hd => rfl); (case hg => rfl); (case hr => first | (go_simp; done) | (go_simp; rfl)); intro gb799 hg w9 hbox hb; have GW799 := zg HB hg; have GE799 := zg HB hg; have NB798_799 := zn BK798 hg; have NB799_798 := zn' BK798 hg; have n0_ := Aside0.mk (hbox); replace BK798 := zk BK798 hb; replace HB := zb HB hb; have BK799 := n0_; clear n0_; clear hb hbox hg) | ((with_reducible refine gate_dst (N := 4) rfl ?_); refine box_event ?hg (N := 4) ?hd (cs := #[.int .i64 0, .int .i64 0, .slice none 0 0]) (t := 40) ?hr ?_; (case hd => rfl); (case hg => rfl); (case hr => first | (go_simp; done) | (go_simp; rfl)); intro gb800 hg w10 hbox hb; have GW800 := zg HB hg; have GE800 := zg HB hg; have NB798_800 := zn BK798 hg; have NB800_798 := zn' BK798 hg; have NB799_800 := zn BK799 hg; have NB800_799 := zn' BK799 hg; have n0_ := Aside0.mk (hbox); replace BK798 := zk BK798 hb; replace BK799 := zk BK799 hb; replace HB := zb HB hb; have BK800 := n0_; clear n0_; clear hb hbox hg; obtain ⟨hcz11_0, hcz11_1, hcz11_2, hfz11_0, hfz11_1, hfz11_2⟩ := zq3 BK798) | ((with_reducible refine gate_callee (f := 22) rfl ?_); refine goesL_ (some 8) rfl rfl Try.func22 (by kernel_rfl) rfl #[.agg #[.int .i64 a0_0, .int .i64 a0_1, .slice A0_2 l0_2.length c0_2]] rfl (by (try simp only [List.map_toArray, List.map_cons, List.map_nil]); first | done | rfl | (simp only [List.length_drop, List.length_take]; rfl)) ?_; (with_reducible refine (raster_Check.calls k a0_0 a0_1 _ _ l0_2 t801 _ ?side1 ?side2 A3.out).mono ?_); (case side1 => repeat (first | exact (Kd.C_below HR0_2.out HB.out) | (with_reducible refine Kd.C_alloc ?_ _) | (with_reducible refine Kd.C_drewN ?_ _) | (with_reducible refine Kd.C_drew ?_))); (case side2 => exact HC0_2.out); rintro e w12 ⟨rfl, hb⟩; refine ⟨_, rfl, ?_⟩; replace BK798 := zk BK798 hb; replace BK799 := zk BK799 hb; replace BK800 := zk BK800 hb; replace HB := zb HB hb; (try clear hb); (try clear hb2); (try clear hk); (try clear hi); obtain ⟨hcz13_0, hcz13_1, hcz13_2, hcz13_3, hfz13_0, hfz13_1, hfz13_2, hfz13_3⟩ := zq4 BK799) | ((with_reducible refine gate_callee (f := 35) rfl ?_); refine goesL_ (some 14) rfl rfl Try.func35 (by kernel_rfl) rfl #[.agg #[.int .i64 a1_0, .int .i64 a1_1, .int .i64 a1_2, .int .i64 a1_3]] rfl (by (try simp only [List.map_toArray, List.map_cons, List.map_nil]); first | done | rfl | (simp only [List.length_drop, List.length_take]; rfl)) ?_; (with_reducible refine (rect_Valid.calls a1_0 a1_1 a1_2 a1_3 true _ A5.out).mono ?_); rintro e w14 ⟨rfl, hb⟩; refine ⟨_, rfl, ?_⟩; replace BK798 := zk BK798 hb; replace BK799 := zk BK799 hb; replace BK800 := zk BK800 hb; replace HB := zb HB hb; (try clear hb); (try clear hb2); (try clear hk); (try clear hi)))
   (try simp only [Act.put, sA, sB, sC])
   go_cut [24] (fun v24 wc => ∃ (kq : Nat) (x24_6 : Bool), v24 = .bool x24_6 ∧ Aside0 (raster_Crop.j0 kq x24_6 a0_0 a0_1 l0_2 a1_0 a1_1 a1_2 a1_3 = some (r1, r2, r3, r4)) ∧ Aside0 (kq ≤ k) ∧ Aside0 (wc.heap[gb798]? = some (.cells #[.int .i64 a0_0, .int .i64 a0_1, (.slice A0_2 l0_2.length c0_2)] 40 (0, 0))) ∧ Aside0 (wc.heap[gb799]? = some (.cells #[.int .i64 a1_0, .int .i64 a1_1, .int .i64 a1_2, .int .i64 a1_3] 34 (0, 0))) ∧ Aside0 (wc.heap[gb800]? = some (.cells #[.int .i64 0, .int .i64 0, (.slice none 0 0)] 40 (0, 0))) ∧ Aside0 (Below w.heap.size w wc))
   case first =>
    have H := HC7.out
    clear HC7
    by_cases c15 : a1_2 > 256
    ·rw [if_pos c15] at H
     have c15b0 : decide (256 < a1_2) = true := decide_eq_true c15
     clear c15
     (first | rw [c15b0] | (simp only [i64_w, i32_w]; rw [c15b0]) | skip)
     have H' := Aside0.mk H
     clear H
     obtain ⟨hcz16_0, hcz16_1, hcz16_2, hcz16_3, hfz16_0, hfz16_1, hfz16_2, hfz16_3⟩ := zq4 BK799
     go_wp2
     go_meet
     case rel => exact ⟨_, (true), (by first | rfl | (simp; done) | (simp [*]; done)), H', ⟨by first | omega | exact Nat.le_refl _⟩, ⟨by exact zk0 BK798⟩, ⟨by exact zk0 BK799⟩, ⟨by exact zk0 BK800⟩, ⟨by exact zb0 HB⟩⟩
    ·rw [if_neg c15] at H
     have c15b0 : decide (256 < a1_2) = false := decide_eq_false c15
     clear c15
     (first | rw [c15b0] | (simp only [i64_w, i32_w]; rw [c15b0]) | skip)
     have H' := Aside0.mk H
     clear H
     obtain ⟨hcz17_0, hcz17_1, hcz17_2, hcz17_3, hfz17_0, hfz17_1, hfz17_2, hfz17_3⟩ := zq4 BK799
     go_wp2
     go_meet
     case rel => exact ⟨_, (decide (a1_3 > 256)), (by first | rfl | (simp; done) | (simp [*]; done)), H', ⟨by first | omega | exact Nat.le_refl _⟩, ⟨by exact zk0 BK798⟩, ⟨by exact zk0 BK799⟩, ⟨by exact zk0 BK800⟩, ⟨by exact zb0 HB⟩⟩
   case rest =>
    clear HC7
    try clear c1
    try clear c2
    try clear p2
    try clear c3
    try clear q3
    try clear c4
    try clear c4b0
    try clear c4b1
    try clear q4
    try clear c6
    try clear c15
    try clear c15b0
    try clear hcz11_0
    try clear hcz11_1
    try clear hcz11_2
    try clear hcz13_0
    try clear hcz13_1
    try clear hcz13_2
    try clear hcz13_3
    try clear hcz16_0
    try clear hcz16_1
    try clear hcz16_2
    try clear hcz16_3
    try clear hcz17_0
    try clear hcz17_1
    try clear hcz17_2
    try clear hcz17_3
    try clear hfz11_0
    try clear hfz11_1
    try clear hfz11_2
    try clear hfz13_0
    try clear hfz13_1
    try clear hfz13_2
    try clear hfz13_3
    try clear hfz16_0
    try clear hfz16_1
    try clear hfz16_2
    try clear hfz16_3
    try clear hfz17_0
    try clear hfz17_1
    try clear hfz17_2
    try clear hfz17_3
    obtain ⟨kq, x24_6, rfl, HA, HJ6, BK798, BK799, BK800, HB⟩ := hcut
    cases kq with
    | zero => exact absurd HA.out (by simp [raster_Crop.j0])
    | succ kj6 =>
     have H := HA.out
     clear HA
     simp only [raster_Crop.j0] at H
     by_cases c18 : x24_6 = true
     ·subst c18
      have H1 : (some (0, 0, ([] : List (S48)), 15)) = some (r1, r2, r3, r4) := by rw [if_pos rfl] at H; exact H
      clear H
      have H := H1
      clear H1
      simp only [Option.some.injEq, Prod.mk.injEq] at H
      obtain ⟨rfl, rfl, rfl, rfl⟩ := H
      have hnb19 := NB800_798.out
      have hnc19 := NB798_800.out
      have hnb20 := NB800_799.out
      have hnc20 := NB799_800.out
      obtain ⟨hcz21_0, hcz21_1, hcz21_2, hfz21_0, hfz21_1, hfz21_2⟩ := zq3 BK800
      go_wp2
      refine bodyPost_ret (results_ct rfl _ _ gb800 40 #[.int .i64 0, .int .i64 0, .slice none 0 0] (0, 0) _ rfl (by exact zp BK800 rfl) Try.underlying40 rfl (by kernel_rfl)) rfl ?_
      exact ⟨_, by first | rfl | (simp [errW_none, errW_some] <;> rfl) | (simp [*, errW_none, errW_some] <;> rfl), by first | exact Kd.R_nil _ _ _ _ _ | exact Kd.N_nil _ _ _ _ _ | exact Kd.V_nil _ _ _ _ _ | exact Kd.Q_nil _ _ _ _ _ | exact Kd.S_nil _ _ _ _ _, by exact zbo HB GE800⟩
     ·replace c18 := Bool.eq_false_iff.mpr c18
      subst c18
      have H1 : ((rect_Empty.f a1_0 a1_1 a1_2 a1_3).bind fun t803 => (if t803 = true then (some (0, 0, ([] : List (S48)), 0)) else ((raster_fill__raster_Crop_1.f kj6 a1_2 a1_3 a0_0 a0_1 l0_2 a1_0 a1_1 a1_2 a1_3).bind fun bt804 => (some (bt804.1, bt804.2.1, bt804.2.2, 0))))) = some (r1, r2, r3, r4) := by rw [if_neg (show ¬ (false = true) by decide)] at H; exact H
      clear H
      have H := H1
      clear H1
      replace H := Option.bind_eq_some_iff.mp H
      obtain ⟨t803, A220, H⟩ := H
      replace H : (if t803 = true then (some (0, 0, ([] : List (S48)), 0)) else ((raster_fill__raster_Crop_1.f kj6 a1_2 a1_3 a0_0 a0_1 l0_2 a1_0 a1_1 a1_2 a1_3).bind fun bt804 => (some (bt804.1, bt804.2.1, bt804.2.2, 0)))) = some (r1, r2, r3, r4) := H
      have A22 := Aside0.mk A220
      clear A220
      by_cases c23 : t803 = true
      ·subst c23
       have H1 : (some (0, 0, ([] : List (S48)), 0)) = some (r1, r2, r3, r4) := by rw [if_pos rfl] at H; exact H
       clear H
       have H := H1
       clear H1
       simp only [Option.some.injEq, Prod.mk.injEq] at H
       obtain ⟨rfl, rfl, rfl, rfl⟩ := H
       have hnb24 := NB799_798.out
       have hnc24 := NB798_799.out
       have hnb25 := NB799_800.out
       have hnc25 := NB800_799.out
       obtain ⟨hcz26_0, hcz26_1, hcz26_2, hcz26_3, hfz26_0, hfz26_1, hfz26_2, hfz26_3⟩ := zq4 BK799
       go_wp2_with (first | ((with_reducible refine gate_callee (f := 36) rfl ?_); refine goesL_ (some 27) rfl rfl Try.func36 (by kernel_rfl) rfl #[.agg #[.int .i64 a1_0, .int .i64 a1_1, .int .i64 a1_2, .int .i64 a1_3]] rfl (by (try simp only [List.map_toArray, List.map_cons, List.map_nil]); first | done | rfl | (simp only [List.length_drop, List.length_take]; rfl)) ?_; (with_reducible refine (rect_Empty.calls a1_0 a1_1 a1_2 a1_3 true _ A22.out).mono ?_); rintro e w27 ⟨rfl, hb⟩; refine ⟨_, rfl, ?_⟩; replace BK798 := zk BK798 hb; replace BK799 := zk BK799 hb; replace BK800 := zk BK800 hb; replace HB := zb HB hb; (try clear hb); (try clear hb2); (try clear hk); (try clear hi); have hnb28 := NB800_798.out; have hnc28 := NB798_800.out; obtain ⟨hcz29_0, hcz29_1, hcz29_2, hfz29_0, hfz29_1, hfz29_2⟩ := zq3 BK800))
       refine bodyPost_ret (results_ct rfl _ _ gb800 40 #[.int .i64 0, .int .i64 0, .slice none 0 0] (0, 0) _ rfl (by exact zp BK800 rfl) Try.underlying40 rfl (by kernel_rfl)) rfl ?_
       exact ⟨_, by first | rfl | (simp [errW_none, errW_some] <;> rfl) | (simp [*, errW_none, errW_some] <;> rfl), by first | exact Kd.R_nil _ _ _ _ _ | exact Kd.N_nil _ _ _ _ _ | exact Kd.V_nil _ _ _ _ _ | exact Kd.Q_nil _ _ _ _ _ | exact Kd.S_nil _ _ _ _ _, by exact zbo HB GE800⟩
      ·replace c23 := Bool.eq_false_iff.mpr c23
       subst c23
       have H1 : ((raster_fill__raster_Crop_1.f kj6 a1_2 a1_3 a0_0 a0_1 l0_2 a1_0 a1_1 a1_2 a1_3).bind fun bt804 => (some (bt804.1, bt804.2.1, bt804.2.2, 0))) = some (r1, r2, r3, r4) := by rw [if_neg (show ¬ (false = true) by decide)] at H; exact H
       clear H
       have H := H1
       clear H1
       replace H := Option.bind_eq_some_iff.mp H
       obtain ⟨⟨t804, t805, t806⟩, A300, H⟩ := H
       replace H : (some (t804, t805, t806, 0)) = some (r1, r2, r3, r4) := H
       have A30 := Aside0.mk A300
       clear A300
       simp only [Option.some.injEq, Prod.mk.injEq] at H
       obtain ⟨rfl, rfl, rfl, rfl⟩ := H
       have hnb31 := NB799_798.out
       have hnc31 := NB798_799.out
       have hnb32 := NB799_800.out
       have hnc32 := NB800_799.out
       obtain ⟨hcz33_0, hcz33_1, hcz33_2, hcz33_3, hfz33_0, hfz33_1, hfz33_2, hfz33_3⟩ := zq4 BK799
       go_wp2_with (first | ((with_reducible refine gate_callee (f := 36) rfl ?_); refine goesL_ (some 27) rfl rfl Try.func36 (by kernel_rfl) rfl #[.agg #[.int .i64 a1_0, .int .i64 a1_1, .int .i64 a1_2, .int .i64 a1_3]] rfl (by (try simp only [List.map_toArray, List.map_cons, List.map_nil]); first | done | rfl | (simp only [List.length_drop, List.length_take]; rfl)) ?_; (with_reducible refine (rect_Empty.calls a1_0 a1_1 a1_2 a1_3 false _ A22.out).mono ?_); rintro e w34 ⟨rfl, hb⟩; refine ⟨_, rfl, ?_⟩; replace BK798 := zk BK798 hb; replace BK799 := zk BK799 hb; replace BK800 := zk BK800 hb; replace HB := zb HB hb; (try clear hb); (try clear hb2); (try clear hk); (try clear hi); obtain ⟨hcz35_0, hcz35_1, hcz35_2, hcz35_3, hfz35_0, hfz35_1, hfz35_2, hfz35_3⟩ := zq4 BK799) | ((with_reducible refine gate_callee (f := 60) rfl ?_); refine goesL_ (some 34) rfl rfl Try.func60 (by kernel_rfl) rfl #[.int .i64 a1_2, .int .i64 a1_3, .func (.func 61) #[] #[.pointer (some ⟨gb798, 0, none⟩), .pointer (some ⟨gb799, 0, none⟩)]] rfl (by (try simp only [List.map_toArray, List.map_cons, List.map_nil]); first | done | rfl | (simp only [List.length_drop, List.length_take]; rfl)) ?_; (with_reducible refine (raster_fill__raster_Crop_1.calls kj6 a1_2 a1_3 gb798 gb799 a0_0 a0_1 A0_2 c0_2 l0_2 a1_0 a1_1 a1_2 a1_3 t804 t805 t806 _ ?side1 ?side2 ?side3 ?side4 A30.out).mono ?_); (case side1 => exact zk0 BK798); (case side2 => exact zk0 BK799); (case side3 => repeat (first | exact (Kd.C_below HR0_2.out HB.out) | (with_reducible refine Kd.C_alloc ?_ _) | (with_reducible refine Kd.C_drewN ?_ _) | (with_reducible refine Kd.C_drew ?_))); (case side4 => exact HC0_2.out); rintro e w36 ⟨v807, rfl, ho0, hb⟩; refine ⟨_, rfl, ?_⟩; have HO808 := zl HB ho0; replace BK798 := zk BK798 hb; replace BK799 := zk BK799 hb; replace BK800 := zk BK800 hb; replace HB := zb HB hb; (try clear hb); (try clear hb2); (try clear hk); (try clear hi); (try clear ho0); have hnb37 := NB800_798.out; have hnc37 := NB798_800.out; obtain ⟨hcz38_0, hcz38_1, hcz38_2, hfz38_0, hfz38_1, hfz38_2⟩ := zq3 BK800; obtain ⟨Ao39, co39, eo39⟩ := Kd.R_slice HO808.out; subst eo39))
       refine bodyPost_ret (results_ct rfl _ _ gb800 40 #[.int .i64 t804, .int .i64 t805, .slice Ao39 t806.length co39] (0, 0) _ rfl (by exact zp BK800 rfl) Try.underlying40 rfl (by kernel_rfl)) rfl ?_
       exact ⟨_, by first | rfl | (simp [errW_none, errW_some] <;> rfl) | (simp [*, errW_none, errW_some] <;> rfl), by exact zro HO808 BK800 (by decide), by exact zbo HB GE800⟩
  ·replace c6 := Bool.eq_false_iff.mpr c6
   subst c6
   have H1 : (some (0, 0, ([] : List (S48)), 2)) = some (r1, r2, r3, r4) := by rw [if_neg (show ¬ (false = true) by decide)] at H; exact H
   clear H
   have H := H1
   clear H1
   simp only [Option.some.injEq, Prod.mk.injEq] at H
   obtain ⟨rfl, rfl, rfl, rfl⟩ := H
   go_enter Try.func24, Try.ntmps24
   go_wp2_with (first | ((with_reducible refine gate_dst (N := 2) rfl ?_); refine box_event ?hg (N := 2) ?hd (cs := #[.int .i64 a0_0, .int .i64 a0_1, .slice A0_2 l0_2.length c0_2]) (t := 40) ?hr ?_; (case hd => rfl); (case hg => rfl); (case hr => first | (go_simp; done) | (go_simp; rfl)); intro gb798 hg w40 hbox hb; have GW798 := zg HB hg; have GE798 := zg HB hg; have n0_ := Aside0.mk (hbox); replace HB := zb HB hb; have BK798 := n0_; clear n0_; clear hb hbox hg) | ((with_reducible refine gate_dst (N := 3) rfl ?_); refine box_event ?hg (N := 3) ?hd (cs := #[.int .i64 a1_0, .int .i64 a1_1, .int .i64 a1_2, .int .i64 a1_3]) (t := 34) ?hr ?_; (case hd => rfl); (case hg => rfl); (case hr => first | (go_simp; done) | (go_simp; rfl)); intro gb799 hg w41 hbox hb; have GW799 := zg HB hg; have GE799 := zg HB hg; have NB798_799 := zn BK798 hg; have NB799_798 := zn' BK798 hg; have n0_ := Aside0.mk (hbox); replace BK798 := zk BK798 hb; replace HB := zb HB hb; have BK799 := n0_; clear n0_; clear hb hbox hg) | ((with_reducible refine gate_dst (N := 4) rfl ?_); refine box_event ?hg (N := 4) ?hd (cs := #[.int .i64 0, .int .i64 0, .slice none 0 0]) (t := 40) ?hr ?_; (case hd => rfl); (case hg => rfl); (case hr => first | (go_simp; done) | (go_simp; rfl)); intro gb800 hg w42 hbox hb; have GW800 := zg HB hg; have GE800 := zg HB hg; have NB798_800 := zn BK798 hg; have NB800_798 := zn' BK798 hg; have NB799_800 := zn BK799 hg; have NB800_799 := zn' BK799 hg; have n0_ := Aside0.mk (hbox); replace BK798 := zk BK798 hb; replace BK799 := zk BK799 hb; replace HB := zb HB hb; have BK800 := n0_; clear n0_; clear hb hbox hg; have hnb43 := NB798_799.out; have hnc43 := NB799_798.out; have hnb44 := NB798_800.out; have hnc44 := NB800_798.out; obtain ⟨hcz45_0, hcz45_1, hcz45_2, hfz45_0, hfz45_1, hfz45_2⟩ := zq3 BK798) | ((with_reducible refine gate_callee (f := 22) rfl ?_); refine goesL_ (some 8) rfl rfl Try.func22 (by kernel_rfl) rfl #[.agg #[.int .i64 a0_0, .int .i64 a0_1, .slice A0_2 l0_2.length c0_2]] rfl (by (try simp only [List.map_toArray, List.map_cons, List.map_nil]); first | done | rfl | (simp only [List.length_drop, List.length_take]; rfl)) ?_; (with_reducible refine (raster_Check.calls k a0_0 a0_1 _ _ l0_2 t801 _ ?side1 ?side2 A3.out).mono ?_); (case side1 => repeat (first | exact (Kd.C_below HR0_2.out HB.out) | (with_reducible refine Kd.C_alloc ?_ _) | (with_reducible refine Kd.C_drewN ?_ _) | (with_reducible refine Kd.C_drew ?_))); (case side2 => exact HC0_2.out); rintro e w46 ⟨rfl, hb⟩; refine ⟨_, rfl, ?_⟩; replace BK798 := zk BK798 hb; replace BK799 := zk BK799 hb; replace BK800 := zk BK800 hb; replace HB := zb HB hb; (try clear hb); (try clear hb2); (try clear hk); (try clear hi); have hnb47 := NB799_800.out; have hnc47 := NB800_799.out; obtain ⟨hcz48_0, hcz48_1, hcz48_2, hcz48_3, hfz48_0, hfz48_1, hfz48_2, hfz48_3⟩ := zq4 BK799) | ((with_reducible refine gate_callee (f := 35) rfl ?_); refine goesL_ (some 14) rfl rfl Try.func35 (by kernel_rfl) rfl #[.agg #[.int .i64 a1_0, .int .i64 a1_1, .int .i64 a1_2, .int .i64 a1_3]] rfl (by (try simp only [List.map_toArray, List.map_cons, List.map_nil]); first | done | rfl | (simp only [List.length_drop, List.length_take]; rfl)) ?_; (with_reducible refine (rect_Valid.calls a1_0 a1_1 a1_2 a1_3 false _ A5.out).mono ?_); rintro e w49 ⟨rfl, hb⟩; refine ⟨_, rfl, ?_⟩; replace BK798 := zk BK798 hb; replace BK799 := zk BK799 hb; replace BK800 := zk BK800 hb; replace HB := zb HB hb; (try clear hb); (try clear hb2); (try clear hk); (try clear hi); obtain ⟨hcz50_0, hcz50_1, hcz50_2, hfz50_0, hfz50_1, hfz50_2⟩ := zq3 BK800))
   refine bodyPost_ret (results_ct rfl _ _ gb800 40 #[.int .i64 0, .int .i64 0, .slice none 0 0] (0, 0) _ rfl (by exact zp BK800 rfl) Try.underlying40 rfl (by kernel_rfl)) rfl ?_
   exact ⟨_, by first | rfl | (simp [errW_none, errW_some] <;> rfl) | (simp [*, errW_none, errW_some] <;> rfl), by first | exact Kd.R_nil _ _ _ _ _ | exact Kd.N_nil _ _ _ _ _ | exact Kd.V_nil _ _ _ _ _ | exact Kd.Q_nil _ _ _ _ _ | exact Kd.S_nil _ _ _ _ _, by exact zbo HB GE800⟩
 ·rw [if_neg c4] at H
  have c4b0 : (t801 == 0) = false := beq_eq_false_iff_ne.mpr c4
  have c4b1 : (t801 != 0) = true := bne_iff_ne.mpr c4
  simp only [Option.some.injEq, Prod.mk.injEq] at H
  obtain ⟨rfl, rfl, rfl, rfl⟩ := H
  go_enter Try.func24, Try.ntmps24
  go_wp2_with (first | ((with_reducible refine gate_dst (N := 2) rfl ?_); refine box_event ?hg (N := 2) ?hd (cs := #[.int .i64 a0_0, .int .i64 a0_1, .slice A0_2 l0_2.length c0_2]) (t := 40) ?hr ?_; (case hd => rfl); (case hg => rfl); (case hr => first | (go_simp; done) | (go_simp; rfl)); intro gb798 hg w51 hbox hb; have GW798 := zg HB hg; have GE798 := zg HB hg; have n0_ := Aside0.mk (hbox); replace HB := zb HB hb; have BK798 := n0_; clear n0_; clear hb hbox hg) | ((with_reducible refine gate_dst (N := 3) rfl ?_); refine box_event ?hg (N := 3) ?hd (cs := #[.int .i64 a1_0, .int .i64 a1_1, .int .i64 a1_2, .int .i64 a1_3]) (t := 34) ?hr ?_; (case hd => rfl); (case hg => rfl); (case hr => first | (go_simp; done) | (go_simp; rfl)); intro gb799 hg w52 hbox hb; have GW799 := zg HB hg; have GE799 := zg HB hg; have NB798_799 := zn BK798 hg; have NB799_798 := zn' BK798 hg; have n0_ := Aside0.mk (hbox); replace BK798 := zk BK798 hb; replace HB := zb HB hb; have BK799 := n0_; clear n0_; clear hb hbox hg) | ((with_reducible refine gate_dst (N := 4) rfl ?_); refine box_event ?hg (N := 4) ?hd (cs := #[.int .i64 0, .int .i64 0, .slice none 0 0]) (t := 40) ?hr ?_; (case hd => rfl); (case hg => rfl); (case hr => first | (go_simp; done) | (go_simp; rfl)); intro gb800 hg w53 hbox hb; have GW800 := zg HB hg; have GE800 := zg HB hg; have NB798_800 := zn BK798 hg; have NB800_798 := zn' BK798 hg; have NB799_800 := zn BK799 hg; have NB800_799 := zn' BK799 hg; have n0_ := Aside0.mk (hbox); replace BK798 := zk BK798 hb; replace BK799 := zk BK799 hb; replace HB := zb HB hb; have BK800 := n0_; clear n0_; clear hb hbox hg; have hnb54 := NB798_799.out; have hnc54 := NB799_798.out; have hnb55 := NB798_800.out; have hnc55 := NB800_798.out; obtain ⟨hcz56_0, hcz56_1, hcz56_2, hfz56_0, hfz56_1, hfz56_2⟩ := zq3 BK798) | ((with_reducible refine gate_callee (f := 22) rfl ?_); refine goesL_ (some 8) rfl rfl Try.func22 (by kernel_rfl) rfl #[.agg #[.int .i64 a0_0, .int .i64 a0_1, .slice A0_2 l0_2.length c0_2]] rfl (by (try simp only [List.map_toArray, List.map_cons, List.map_nil]); first | done | rfl | (simp only [List.length_drop, List.length_take]; rfl)) ?_; (with_reducible refine (raster_Check.calls k a0_0 a0_1 _ _ l0_2 t801 _ ?side1 ?side2 A3.out).mono ?_); (case side1 => repeat (first | exact (Kd.C_below HR0_2.out HB.out) | (with_reducible refine Kd.C_alloc ?_ _) | (with_reducible refine Kd.C_drewN ?_ _) | (with_reducible refine Kd.C_drew ?_))); (case side2 => exact HC0_2.out); rintro e w57 ⟨rfl, hb⟩; refine ⟨_, rfl, ?_⟩; replace BK798 := zk BK798 hb; replace BK799 := zk BK799 hb; replace BK800 := zk BK800 hb; replace HB := zb HB hb; (try clear hb); (try clear hb2); (try clear hk); (try clear hi); have hnb58 := NB800_799.out; have hnc58 := NB799_800.out; obtain ⟨hcz59_0, hcz59_1, hcz59_2, hfz59_0, hfz59_1, hfz59_2⟩ := zq3 BK800))
  refine bodyPost_ret (results_ct rfl _ _ gb800 40 #[.int .i64 0, .int .i64 0, .slice none 0 0] (0, 0) _ rfl (by exact zp BK800 rfl) Try.underlying40 rfl (by kernel_rfl)) rfl ?_
  exact ⟨_, by first | rfl | (simp [errW_none, errW_some] <;> rfl) | (simp [*, errW_none, errW_some] <;> rfl), by first | exact Kd.R_nil _ _ _ _ _ | exact Kd.N_nil _ _ _ _ _ | exact Kd.V_nil _ _ _ _ _ | exact Kd.Q_nil _ _ _ _ _ | exact Kd.S_nil _ _ _ _ _, by exact zbo HB GE800⟩

end Go.Proofs.Ytnfbabmceddciaa.G
