/- Contracts of functions of the program, each as it is called: what it computes (.f), that it computes no less with more rounds (.mono), and that a call returns just that (.calls). No conditions but those that each contract names. Written by a program of this session (wip/gx.py over the kit's print). -/
import Derived.Test.YtjepbimgddgijaaG0
import Derived.Test.YtjepbimgddgijaaG1
import Derived.Test.YtjepbimgddgijaaG2
import Derived.Test.YtjepbimgddgijaaG6
import Derived.Test.YtjepbimgddgijaaG10
import Derived.Test.YtjepbimgddgijaaG11
namespace Go.Proofs.Ytjepbimgddgijaa.G
open Go.RowKit Go.Proofs.YtjepbimgddgijaaW.PrintWords Go.Proofs.YtjepbimgddgijaaW.PrintLast Go.Proofs.YtjepbimgddgijaaW.PrintMore
attribute [local go_sem] max2_int min2_int max_two min_two max_three min_three max_four min_four   -- for this text's walks alone
set_option linter.unusedVariables false
set_option linter.unusedSimpArgs false


/-! ### imageeditorref11_Put: function 30 -/
mutual
def imageeditorref11_Put.l0 : Nat → Int → Int → Int → Int → Int → List (S26) → Int → Int → List (S26) → Int → Int → List (S26) → Option (Int × Int × (List (S26)) × Int)
 | 0, _, _, _, _, _, _, _, _, _, _, _, _ => none
 | k + 1, x10, x11, x13, x614000, x614001, x614002, x615000, x615001, x615002, x620000, x620001, x620002 => if x13 < x614001 then (imageeditorref11_Put.l1 k x10 x11 x13 0 x614000 x614001 x614002 x615000 x615001 x615002 x620000 x620001 x620002) else (some (x620000, x620001, x620002, 0))
def imageeditorref11_Put.l1 : Nat → Int → Int → Int → Int → Int → Int → List (S26) → Int → Int → List (S26) → Int → Int → List (S26) → Option (Int × Int × (List (S26)) × Int)
 | 0, _, _, _, _, _, _, _, _, _, _, _, _, _ => none
 | k + 1, x10, x11, x13, x14, x614000, x614001, x614002, x615000, x615001, x615002, x620000, x620001, x620002 => if x14 < x614000 then ((imageeditorref11_Pick.f x614000 x614001 x614002 x14 x13).bind fun bt620 => (if (wrap64 (x14 - x10)) ≥ 0 then (if (wrap64 (x14 - x10)) < x615000 then (if (wrap64 (x13 - x11)) ≥ 0 then (if (wrap64 (x13 - x11)) < x615001 then ((imageeditorref11_Pick.f x615000 x615001 x615002 (wrap64 (x14 - x10)) (wrap64 (x13 - x11))).bind fun bt625 => (if x620002.length < 4398046511104 then (imageeditorref11_Put.l1 k x10 x11 x13 (wrap64 (x14 + 1)) x614000 x614001 x614002 x615000 x615001 x615002 x620000 x620001 (x620002 ++ [(⟨bt625.1, bt625.2.1, bt625.2.2.1, bt625.2.2.2⟩ : S26)])) else (none))) else (if x620002.length < 4398046511104 then (imageeditorref11_Put.l1 k x10 x11 x13 (wrap64 (x14 + 1)) x614000 x614001 x614002 x615000 x615001 x615002 x620000 x620001 (x620002 ++ [(⟨bt620.1, bt620.2.1, bt620.2.2.1, bt620.2.2.2⟩ : S26)])) else (none))) else (if x620002.length < 4398046511104 then (imageeditorref11_Put.l1 k x10 x11 x13 (wrap64 (x14 + 1)) x614000 x614001 x614002 x615000 x615001 x615002 x620000 x620001 (x620002 ++ [(⟨bt620.1, bt620.2.1, bt620.2.2.1, bt620.2.2.2⟩ : S26)])) else (none))) else (if x620002.length < 4398046511104 then (imageeditorref11_Put.l1 k x10 x11 x13 (wrap64 (x14 + 1)) x614000 x614001 x614002 x615000 x615001 x615002 x620000 x620001 (x620002 ++ [(⟨bt620.1, bt620.2.1, bt620.2.2.1, bt620.2.2.2⟩ : S26)])) else (none))) else (if x620002.length < 4398046511104 then (imageeditorref11_Put.l1 k x10 x11 x13 (wrap64 (x14 + 1)) x614000 x614001 x614002 x615000 x615001 x615002 x620000 x620001 (x620002 ++ [(⟨bt620.1, bt620.2.1, bt620.2.2.1, bt620.2.2.2⟩ : S26)])) else (none)))) else (imageeditorref11_Put.l0 k x10 x11 (wrap64 (x13 + 1)) x614000 x614001 x614002 x615000 x615001 x615002 x620000 x620001 x620002)
end
def imageeditorref11_Put.f (k : Nat) (a0_0 : Int) (a0_1 : Int) (l0_2 : List (S26)) (a1_0 : Int) (a1_1 : Int) (l1_2 : List (S26)) (a2_0 : Int) (a2_1 : Int) : Option (Int × Int × (List (S26)) × Int) := (imageeditorref11_Check.f k a0_0 a0_1 l0_2).bind fun t617 => (if t617 = 0 then ((imageeditorref11_Check.f k a1_0 a1_1 l1_2).bind fun t618 => (if t618 = 0 then (imageeditorref11_Put.l0 k (mn (mx a2_0 (-1048576)) 1048576) (mn (mx a2_1 (-1048576)) 1048576) 0 a0_0 a0_1 l0_2 a1_0 a1_1 l1_2 a0_0 a0_1 ([] : List (S26))) else (some (0, 0, ([] : List (S26)), t618)))) else (some (0, 0, ([] : List (S26)), t617)))
theorem imageeditorref11_Put.mono_l : ∀ k, (∀ y0 y1 y2 y3 y4 y5 y6 y7 y8 y9 y10 y11, LeO (imageeditorref11_Put.l0 k y0 y1 y2 y3 y4 y5 y6 y7 y8 y9 y10 y11) (imageeditorref11_Put.l0 (k + 1) y0 y1 y2 y3 y4 y5 y6 y7 y8 y9 y10 y11)) ∧ (∀ y0 y1 y2 y3 y4 y5 y6 y7 y8 y9 y10 y11 y12, LeO (imageeditorref11_Put.l1 k y0 y1 y2 y3 y4 y5 y6 y7 y8 y9 y10 y11 y12) (imageeditorref11_Put.l1 (k + 1) y0 y1 y2 y3 y4 y5 y6 y7 y8 y9 y10 y11 y12))
 | 0 => ⟨fun _ _ _ _ _ _ _ _ _ _ _ _ r h => by simp [imageeditorref11_Put.l0] at h, fun _ _ _ _ _ _ _ _ _ _ _ _ _ r h => by simp [imageeditorref11_Put.l1] at h⟩
 | k + 1 => by
  obtain ⟨ih0, ih1⟩ := imageeditorref11_Put.mono_l k
  refine ⟨?_, ?_⟩
  ·intro y0 y1 y2 y3 y4 y5 y6 y7 y8 y9 y10 y11
   unfold imageeditorref11_Put.l0
   repeat' first
   | (with_reducible exact ih0 _ _ _ _ _ _ _ _ _ _ _ _)
   | (with_reducible exact ih1 _ _ _ _ _ _ _ _ _ _ _ _ _)
   | (with_reducible exact imageeditorref11_Check.mono _ _ _ _)
   | (with_reducible exact LeO.refl _)
   | (with_reducible exact LeO.none _)
   | (with_reducible refine LeO.ite ?_ ?_)
   | (with_reducible refine LeO.bind ?_ (fun _ => ?_))
   | exact ih0 _ _ _ _ _ _ _ _ _ _ _ _
   | exact ih1 _ _ _ _ _ _ _ _ _ _ _ _ _
   | exact imageeditorref11_Check.mono _ _ _ _
   | exact LeO.none _
   | refine LeO.ite ?_ ?_
   | refine LeO.bind ?_ (fun _ => ?_)
  ·intro y0 y1 y2 y3 y4 y5 y6 y7 y8 y9 y10 y11 y12
   unfold imageeditorref11_Put.l1
   repeat' first
   | (with_reducible exact ih0 _ _ _ _ _ _ _ _ _ _ _ _)
   | (with_reducible exact ih1 _ _ _ _ _ _ _ _ _ _ _ _ _)
   | (with_reducible exact imageeditorref11_Check.mono _ _ _ _)
   | (with_reducible exact LeO.refl _)
   | (with_reducible exact LeO.none _)
   | (with_reducible refine LeO.ite ?_ ?_)
   | (with_reducible refine LeO.bind ?_ (fun _ => ?_))
   | exact ih0 _ _ _ _ _ _ _ _ _ _ _ _
   | exact ih1 _ _ _ _ _ _ _ _ _ _ _ _ _
   | exact imageeditorref11_Check.mono _ _ _ _
   | exact LeO.none _
   | refine LeO.ite ?_ ?_
   | refine LeO.bind ?_ (fun _ => ?_)
theorem imageeditorref11_Put.mono : ∀ a0 a1 a2 a3 a4 a5 a6 a7 k, LeO (imageeditorref11_Put.f k a0 a1 a2 a3 a4 a5 a6 a7) (imageeditorref11_Put.f (k + 1) a0 a1 a2 a3 a4 a5 a6 a7) := by
 intro a0 a1 a2 a3 a4 a5 a6 a7 k
 obtain ⟨ih0, ih1⟩ := imageeditorref11_Put.mono_l k
 unfold imageeditorref11_Put.f
 repeat' first
   | (with_reducible exact ih0 _ _ _ _ _ _ _ _ _ _ _ _)
   | (with_reducible exact ih1 _ _ _ _ _ _ _ _ _ _ _ _ _)
   | (with_reducible exact imageeditorref11_Check.mono _ _ _ _)
   | (with_reducible exact LeO.refl _)
   | (with_reducible exact LeO.none _)
   | (with_reducible refine LeO.ite ?_ ?_)
   | (with_reducible refine LeO.bind ?_ (fun _ => ?_))
   | exact ih0 _ _ _ _ _ _ _ _ _ _ _ _
   | exact ih1 _ _ _ _ _ _ _ _ _ _ _ _ _
   | exact imageeditorref11_Check.mono _ _ _ _
   | exact LeO.none _
   | refine LeO.ite ?_ ?_
   | refine LeO.bind ?_ (fun _ => ?_)
set_option maxHeartbeats 8000000 in
set_option maxRecDepth 100000 in
theorem imageeditorref11_Put.calls (k : Nat) (a0_0 : Int) (a0_1 : Int) (A0_2 : Option Addr) (c0_2 : Nat) (l0_2 : List (S26)) (a1_0 : Int) (a1_1 : Int) (A1_2 : Option Addr) (c1_2 : Nat) (l1_2 : List (S26)) (a2_0 : Int) (a2_1 : Int) (r1 : Int) (r2 : Int) (r3 : List (S26)) (r4 : Int) (w : World) (hr0_2 : Kd.C k26 w A0_2 l0_2.length l0_2) (hc0_2 : l0_2.length ≤ c0_2) (hr1_2 : Kd.C k26 w A1_2 l1_2.length l1_2) (hc1_2 : l1_2.length ≤ c1_2) (h : imageeditorref11_Put.f k a0_0 a0_1 l0_2 a1_0 a1_1 l1_2 a2_0 a2_1 = some (r1, r2, r3, r4)) :
  Calls Try.prog 30 #[.agg #[.int .i64 a0_0, .int .i64 a0_1, .slice A0_2 l0_2.length c0_2], .agg #[.int .i64 a1_0, .int .i64 a1_1, .slice A1_2 l1_2.length c1_2], .agg #[.int .i64 a2_0, .int .i64 a2_1]] w fun e w' => ∃ v2_ : Value, e = .returned (.tuple #[.agg #[.int .i64 r1, .int .i64 r2, v2_], .int .i64 r4]) ∧ Kd.R k26 26 w' w.heap.size (fun _ => True) v2_ r3 ∧ Below w.heap.size w w' := by
 have hu24 := Try.underlying24
 have hu41 := Try.underlying41
 have hu26 := Try.underlying26
 have HR0_2 := Aside0.mk hr0_2
 have HC0_2 := Aside0.mk hc0_2
 clear hr0_2 hc0_2
 have HR1_2 := Aside0.mk hr1_2
 have HC1_2 := Aside0.mk hc1_2
 clear hr1_2 hc1_2
 have HB := Aside0.mk (Below.refl w.heap.size w)
 have H : ((imageeditorref11_Check.f k a0_0 a0_1 l0_2).bind fun t617 => (if t617 = 0 then ((imageeditorref11_Check.f k a1_0 a1_1 l1_2).bind fun t618 => (if t618 = 0 then (imageeditorref11_Put.l0 k (mn (mx a2_0 (-1048576)) 1048576) (mn (mx a2_1 (-1048576)) 1048576) 0 a0_0 a0_1 l0_2 a1_0 a1_1 l1_2 a0_0 a0_1 ([] : List (S26))) else (some (0, 0, ([] : List (S26)), t618)))) else (some (0, 0, ([] : List (S26)), t617)))) = some (r1, r2, r3, r4) := h
 clear h
 replace H := Option.bind_eq_some_iff.mp H
 obtain ⟨t617, A40, H⟩ := H
 replace H : (if t617 = 0 then ((imageeditorref11_Check.f k a1_0 a1_1 l1_2).bind fun t618 => (if t618 = 0 then (imageeditorref11_Put.l0 k (mn (mx a2_0 (-1048576)) 1048576) (mn (mx a2_1 (-1048576)) 1048576) 0 a0_0 a0_1 l0_2 a1_0 a1_1 l1_2 a0_0 a0_1 ([] : List (S26))) else (some (0, 0, ([] : List (S26)), t618)))) else (some (0, 0, ([] : List (S26)), t617))) = some (r1, r2, r3, r4) := H
 have A4 := Aside0.mk A40
 clear A40
 by_cases c5 : t617 = 0
 ·rw [if_pos c5] at H
  have c5b0 : (t617 == 0) = true := beq_iff_eq.mpr c5
  have c5b1 : (t617 != 0) = false := bne_eq_false_iff_eq.mpr c5
  clear c5
  replace H := Option.bind_eq_some_iff.mp H
  obtain ⟨t618, A60, H⟩ := H
  replace H : (if t618 = 0 then (imageeditorref11_Put.l0 k (mn (mx a2_0 (-1048576)) 1048576) (mn (mx a2_1 (-1048576)) 1048576) 0 a0_0 a0_1 l0_2 a1_0 a1_1 l1_2 a0_0 a0_1 ([] : List (S26))) else (some (0, 0, ([] : List (S26)), t618))) = some (r1, r2, r3, r4) := H
  have A6 := Aside0.mk A60
  clear A60
  by_cases c7 : t618 = 0
  ·rw [if_pos c7] at H
   have c7b0 : (t618 == 0) = true := beq_iff_eq.mpr c7
   have c7b1 : (t618 != 0) = false := bne_eq_false_iff_eq.mpr c7
   clear c7
   obtain ⟨ji8, hji8⟩ : ∃ j_ : Int, (mx a2_0 (-1048576)) = j_ := ⟨_, rfl⟩
   replace H : (imageeditorref11_Put.l0 k (mn (ji8) 1048576) (mn (mx a2_1 (-1048576)) 1048576) 0 a0_0 a0_1 l0_2 a1_0 a1_1 l1_2 a0_0 a0_1 ([] : List (S26))) = some (r1, r2, r3, r4) := by first | (rw [hji8] at H; exact H) | (simp only [hji8] at H ⊢; exact H)
   (try rw [hji8] at A4)
   (try rw [hji8] at A6)
   have hji8_ : (if a2_0 < (-1048576) then (-1048576) else a2_0) = ji8 := hji8
   obtain ⟨ji9, hji9⟩ : ∃ j_ : Int, (mn (ji8) 1048576) = j_ := ⟨_, rfl⟩
   replace H : (imageeditorref11_Put.l0 k ji9 (mn (mx a2_1 (-1048576)) 1048576) 0 a0_0 a0_1 l0_2 a1_0 a1_1 l1_2 a0_0 a0_1 ([] : List (S26))) = some (r1, r2, r3, r4) := by first | (rw [hji9] at H; exact H) | (simp only [hji9] at H ⊢; exact H)
   (try rw [hji9] at A4)
   (try rw [hji9] at A6)
   have hji9_ : (if 1048576 < (ji8) then 1048576 else (ji8)) = ji9 := hji9
   obtain ⟨ji10, hji10⟩ : ∃ j_ : Int, (mx a2_1 (-1048576)) = j_ := ⟨_, rfl⟩
   replace H : (imageeditorref11_Put.l0 k ji9 (mn (ji10) 1048576) 0 a0_0 a0_1 l0_2 a1_0 a1_1 l1_2 a0_0 a0_1 ([] : List (S26))) = some (r1, r2, r3, r4) := by first | (rw [hji10] at H; exact H) | (simp only [hji10] at H ⊢; exact H)
   (try rw [hji10] at A4)
   (try rw [hji10] at A6)
   have hji10_ : (if a2_1 < (-1048576) then (-1048576) else a2_1) = ji10 := hji10
   obtain ⟨ji11, hji11⟩ : ∃ j_ : Int, (mn (ji10) 1048576) = j_ := ⟨_, rfl⟩
   replace H : (imageeditorref11_Put.l0 k ji9 ji11 0 a0_0 a0_1 l0_2 a1_0 a1_1 l1_2 a0_0 a0_1 ([] : List (S26))) = some (r1, r2, r3, r4) := by first | (rw [hji11] at H; exact H) | (simp only [hji11] at H ⊢; exact H)
   (try rw [hji11] at A4)
   (try rw [hji11] at A6)
   have hji11_ : (if 1048576 < (ji10) then 1048576 else (ji10)) = ji11 := hji11
   have H' := Aside0.mk H
   clear H
   go_enter Try.func30, Try.ntmps30
   go_wp2_with (first | ((with_reducible refine gate_dst (N := 3) rfl ?_); refine box_event ?hg (N := 3) ?hd (cs := #[.int .i64 a0_0, .int .i64 a0_1, .slice A0_2 l0_2.length c0_2]) (t := 24) ?hr ?_; (case hd => rfl); (case hg => rfl); (case hr => first | (go_simp; done) | (go_simp; rfl)); intro gb613 hg w12 hbox hb; have GW613 := zg HB hg; have GE613 := zg HB hg; have n0_ := Aside0.mk (hbox); replace HB := zb HB hb; have BK613 := n0_; clear n0_; clear hb hbox hg) | ((with_reducible refine gate_dst (N := 4) rfl ?_); refine box_event ?hg (N := 4) ?hd (cs := #[.int .i64 a1_0, .int .i64 a1_1, .slice A1_2 l1_2.length c1_2]) (t := 24) ?hr ?_; (case hd => rfl); (case hg => rfl); (case hr => first | (go_simp; done) | (go_simp; rfl)); intro gb614 hg w13 hbox hb; have GW614 := zg HB hg; have GE614 := zg HB hg; have NB613_614 := zn BK613 hg; have NB614_613 := zn' BK613 hg; have n0_ := Aside0.mk (hbox); replace BK613 := zk BK613 hb; replace HB := zb HB hb; have BK614 := n0_; clear n0_; clear hb hbox hg) | ((with_reducible refine gate_dst (N := 5) rfl ?_); refine box_event ?hg (N := 5) ?hd (cs := #[.int .i64 a2_0, .int .i64 a2_1]) (t := 41) ?hr ?_; (case hd => rfl); (case hg => rfl); (case hr => first | (go_simp; done) | (go_simp; rfl)); intro gb615 hg w14 hbox hb; have GW615 := zg HB hg; have GE615 := zg HB hg; have NB613_615 := zn BK613 hg; have NB615_613 := zn' BK613 hg; have NB614_615 := zn BK614 hg; have NB615_614 := zn' BK614 hg; have n0_ := Aside0.mk (hbox); replace BK613 := zk BK613 hb; replace BK614 := zk BK614 hb; replace HB := zb HB hb; have BK615 := n0_; clear n0_; clear hb hbox hg) | ((with_reducible refine gate_dst (N := 6) rfl ?_); refine box_event ?hg (N := 6) ?hd (cs := #[.int .i64 0, .int .i64 0, .slice none 0 0]) (t := 24) ?hr ?_; (case hd => rfl); (case hg => rfl); (case hr => first | (go_simp; done) | (go_simp; rfl)); intro gb616 hg w15 hbox hb; have GW616 := zg HB hg; have GE616 := zg HB hg; have NB613_616 := zn BK613 hg; have NB616_613 := zn' BK613 hg; have NB614_616 := zn BK614 hg; have NB616_614 := zn' BK614 hg; have NB615_616 := zn BK615 hg; have NB616_615 := zn' BK615 hg; have n0_ := Aside0.mk (hbox); replace BK613 := zk BK613 hb; replace BK614 := zk BK614 hb; replace BK615 := zk BK615 hb; replace HB := zb HB hb; have BK616 := n0_; clear n0_; clear hb hbox hg; have hnb16 := NB613_614.out; have hnc16 := NB614_613.out; have hnb17 := NB613_615.out; have hnc17 := NB615_613.out; have hnb18 := NB613_616.out; have hnc18 := NB616_613.out; obtain ⟨hcz19_0, hcz19_1, hcz19_2, hfz19_0, hfz19_1, hfz19_2⟩ := zq3 BK613) | ((with_reducible refine gate_callee (f := 19) rfl ?_); refine goesL_ (some 17) rfl rfl Try.func19 (by kernel_rfl) rfl #[.agg #[.int .i64 a0_0, .int .i64 a0_1, .slice A0_2 l0_2.length c0_2]] rfl (by (try simp only [List.map_toArray, List.map_cons, List.map_nil]); first | done | rfl | (simp only [List.length_drop, List.length_take]; rfl)) ?_; (with_reducible refine (imageeditorref11_Check.calls k a0_0 a0_1 _ _ l0_2 t617 _ ?side1 ?side2 A4.out).mono ?_); (case side1 => repeat (first | exact (Kd.C_below HR0_2.out HB.out) | (with_reducible refine Kd.C_alloc ?_ _) | (with_reducible refine Kd.C_drewN ?_ _) | (with_reducible refine Kd.C_drew ?_))); (case side2 => exact HC0_2.out); rintro e w20 ⟨rfl, hb⟩; refine ⟨_, rfl, ?_⟩; replace BK613 := zk BK613 hb; replace BK614 := zk BK614 hb; replace BK615 := zk BK615 hb; replace BK616 := zk BK616 hb; replace HB := zb HB hb; (try clear hb); (try clear hb2); (try clear hk); (try clear hi); have hnb21 := NB614_615.out; have hnc21 := NB615_614.out; have hnb22 := NB614_616.out; have hnc22 := NB616_614.out; obtain ⟨hcz23_0, hcz23_1, hcz23_2, hfz23_0, hfz23_1, hfz23_2⟩ := zq3 BK614) | ((with_reducible refine gate_callee (f := 19) rfl ?_); refine goesL_ (some 23) rfl rfl Try.func19 (by kernel_rfl) rfl #[.agg #[.int .i64 a1_0, .int .i64 a1_1, .slice A1_2 l1_2.length c1_2]] rfl (by (try simp only [List.map_toArray, List.map_cons, List.map_nil]); first | done | rfl | (simp only [List.length_drop, List.length_take]; rfl)) ?_; (with_reducible refine (imageeditorref11_Check.calls k a1_0 a1_1 _ _ l1_2 t618 _ ?side1 ?side2 A6.out).mono ?_); (case side1 => repeat (first | exact (Kd.C_below HR1_2.out HB.out) | (with_reducible refine Kd.C_alloc ?_ _) | (with_reducible refine Kd.C_drewN ?_ _) | (with_reducible refine Kd.C_drew ?_))); (case side2 => exact HC1_2.out); rintro e w24 ⟨rfl, hb⟩; refine ⟨_, rfl, ?_⟩; replace BK613 := zk BK613 hb; replace BK614 := zk BK614 hb; replace BK615 := zk BK615 hb; replace BK616 := zk BK616 hb; replace HB := zb HB hb; (try clear hb); (try clear hb2); (try clear hk); (try clear hi); have hnb25 := NB615_616.out; have hnc25 := NB616_615.out; obtain ⟨hcz26_0, hcz26_1, hfz26_0, hfz26_1⟩ := zq2 BK615; obtain ⟨hcz27_0, hcz27_1, hcz27_2, hfz27_0, hfz27_1, hfz27_2⟩ := zq3 BK613) | ((with_reducible refine gate_dst (N := 12) rfl ?_); refine box_event ?hg (N := 12) ?hd (cs := #[.int .i64 0, .int .i64 0, .slice none 0 0]) (t := 24) ?hr ?_; (case hd => rfl); (case hg => rfl); (case hr => first | (go_simp; done) | (go_simp; rfl)); intro gb619 hg w28 hbox hb; have GW619 := zg HB hg; have GE619 := zg HB hg; have NB613_619 := zn BK613 hg; have NB619_613 := zn' BK613 hg; have NB614_619 := zn BK614 hg; have NB619_614 := zn' BK614 hg; have NB615_619 := zn BK615 hg; have NB619_615 := zn' BK615 hg; have NB616_619 := zn BK616 hg; have NB619_616 := zn' BK616 hg; have n0_ := Aside0.mk (hbox); replace BK613 := zk BK613 hb; replace BK614 := zk BK614 hb; replace BK615 := zk BK615 hb; replace BK616 := zk BK616 hb; replace HB := zb HB hb; have BK619 := n0_; clear n0_; clear hb hbox hg; have hnb29 := NB619_613.out; have hnc29 := NB613_619.out; have hnb30 := NB619_614.out; have hnc30 := NB614_619.out; have hnb31 := NB619_615.out; have hnc31 := NB615_619.out; have hnb32 := NB619_616.out; have hnc32 := NB616_619.out; obtain ⟨hcz33_0, hcz33_1, hcz33_2, hfz33_0, hfz33_1, hfz33_2⟩ := zq3 BK619))
   (try simp only [Act.put, sA, sB, sC])
   go_loopg [13] k (fun kq v13 w' => ∃ (x13_1 : Int) (x620002_1 : List (S26)) (u620002 : Value), v13 = .int .i64 x13_1 ∧ Aside0 (imageeditorref11_Put.l0 kq ji9 ji11 x13_1 a0_0 a0_1 l0_2 a1_0 a1_1 l1_2 a0_0 a0_1 x620002_1 = some (r1, r2, r3, r4)) ∧ Aside0 (kq ≤ k) ∧ Aside0 (Kd.R k26 26 w' w.heap.size (fun _ => True) u620002 x620002_1) ∧ Aside0 (w'.heap[gb613]? = some (.cells #[.int .i64 a0_0, .int .i64 a0_1, (.slice A0_2 l0_2.length c0_2)] 24 (0, 0))) ∧ Aside0 (w'.heap[gb614]? = some (.cells #[.int .i64 a1_0, .int .i64 a1_1, (.slice A1_2 l1_2.length c1_2)] 24 (0, 0))) ∧ Aside0 (w'.heap[gb615]? = some (.cells #[.int .i64 a2_0, .int .i64 a2_1] 41 (0, 0))) ∧ Aside0 (w'.heap[gb616]? = some (.cells #[.int .i64 0, .int .i64 0, (.slice none 0 0)] 24 (0, 0))) ∧ Aside0 (w'.heap[gb619]? = some (.cells #[.int .i64 a0_0, .int .i64 a0_1, u620002] 24 (0, 0))) ∧ Aside0 (Below w.heap.size w w'))
   case atStart => exact ⟨(0), (([] : List (S26))), (.slice none 0 0), (by first | rfl | (simp; done) | (simp [*]; done)), H', ⟨Nat.le_refl _⟩, ⟨by first | exact Kd.R_nil _ _ _ _ _ | exact Kd.N_nil _ _ _ _ _ | exact Kd.V_nil _ _ _ _ _ | exact Kd.Q_nil _ _ _ _ _ | exact Kd.S_nil _ _ _ _ _⟩, ⟨by exact zf BK613 NB613_619⟩, ⟨by exact zf BK614 NB614_619⟩, ⟨by exact zf BK615 NB615_619⟩, ⟨by exact zf BK616 NB616_619⟩, ⟨by exact zp BK619 rfl⟩, ⟨by exact zbo HB GE619⟩⟩
   case round =>
    clear H'
    try clear c1
    try clear c2
    try clear p2
    try clear q2
    try clear c3
    try clear q3
    try clear c5
    try clear c5b0
    try clear c5b1
    try clear c7
    try clear c7b0
    try clear c7b1
    try clear c16
    try clear c17
    try clear c18
    try clear c19
    try clear c21
    try clear c22
    try clear c25
    try clear c29
    try clear c30
    try clear c31
    try clear c32
    try clear hcz19_0
    try clear hcz19_1
    try clear hcz19_2
    try clear hcz23_0
    try clear hcz23_1
    try clear hcz23_2
    try clear hcz26_0
    try clear hcz26_1
    try clear hcz27_0
    try clear hcz27_1
    try clear hcz27_2
    try clear hcz33_0
    try clear hcz33_1
    try clear hcz33_2
    try clear hfz19_0
    try clear hfz19_1
    try clear hfz19_2
    try clear hfz23_0
    try clear hfz23_1
    try clear hfz23_2
    try clear hfz26_0
    try clear hfz26_1
    try clear hfz27_0
    try clear hfz27_1
    try clear hfz27_2
    try clear hfz33_0
    try clear hfz33_1
    try clear hfz33_2
    obtain ⟨x13_1, x620002_1, u620002, rfl, HA, HK1, HO_620002, BK613, BK614, BK615, BK616, BK619, HB⟩ := hrel
    cases gk with
    | zero => exact absurd HA.out (by simp [imageeditorref11_Put.l0])
    | succ k1 =>
     have H := HA.out
     clear HA
     simp only [imageeditorref11_Put.l0] at H
     by_cases c34 : x13_1 < a0_1
     ·rw [if_pos c34] at H
      have c34b0 : decide (x13_1 < a0_1) = true := decide_eq_true c34
      clear c34
      have H' := Aside0.mk H
      clear H
      obtain ⟨hcz35_0, hcz35_1, hcz35_2, hfz35_0, hfz35_1, hfz35_2⟩ := zq3 BK613
      go_wp2
      go_loopg [14] k1 (fun kq v14 w' => ∃ (x14_2 : Int) (x620002_2 : List (S26)) (u620002 : Value), v14 = .int .i64 x14_2 ∧ Aside0 (imageeditorref11_Put.l1 kq ji9 ji11 x13_1 x14_2 a0_0 a0_1 l0_2 a1_0 a1_1 l1_2 a0_0 a0_1 x620002_2 = some (r1, r2, r3, r4)) ∧ Aside0 (kq ≤ k1) ∧ Aside0 (Kd.R k26 26 w' w.heap.size (fun _ => True) u620002 x620002_2) ∧ Aside0 (w'.heap[gb613]? = some (.cells #[.int .i64 a0_0, .int .i64 a0_1, (.slice A0_2 l0_2.length c0_2)] 24 (0, 0))) ∧ Aside0 (w'.heap[gb614]? = some (.cells #[.int .i64 a1_0, .int .i64 a1_1, (.slice A1_2 l1_2.length c1_2)] 24 (0, 0))) ∧ Aside0 (w'.heap[gb615]? = some (.cells #[.int .i64 a2_0, .int .i64 a2_1] 41 (0, 0))) ∧ Aside0 (w'.heap[gb616]? = some (.cells #[.int .i64 0, .int .i64 0, (.slice none 0 0)] 24 (0, 0))) ∧ Aside0 (w'.heap[gb619]? = some (.cells #[.int .i64 a0_0, .int .i64 a0_1, u620002] 24 (0, 0))) ∧ Aside0 (Below w.heap.size w w'))
      case atStart => exact ⟨(0), (x620002_1), (u620002), (by first | rfl | (simp; done) | (simp [*]; done)), H', ⟨Nat.le_refl _⟩, ⟨by exact zr0 HO_620002⟩, ⟨by exact zk0 BK613⟩, ⟨by exact zk0 BK614⟩, ⟨by exact zk0 BK615⟩, ⟨by exact zk0 BK616⟩, ⟨by exact zk0 BK619⟩, ⟨by exact zb0 HB⟩⟩
      case round =>
       clear H'
       try clear c1
       try clear c2
       try clear p2
       try clear q2
       try clear c3
       try clear q3
       try clear c5
       try clear c5b0
       try clear c5b1
       try clear c7
       try clear c7b0
       try clear c7b1
       try clear c16
       try clear c17
       try clear c18
       try clear c19
       try clear c21
       try clear c22
       try clear c25
       try clear c29
       try clear c30
       try clear c31
       try clear c32
       try clear c34
       try clear c34b0
       try clear hcz19_0
       try clear hcz19_1
       try clear hcz19_2
       try clear hcz23_0
       try clear hcz23_1
       try clear hcz23_2
       try clear hcz26_0
       try clear hcz26_1
       try clear hcz27_0
       try clear hcz27_1
       try clear hcz27_2
       try clear hcz33_0
       try clear hcz33_1
       try clear hcz33_2
       try clear hcz35_0
       try clear hcz35_1
       try clear hcz35_2
       try clear hfz19_0
       try clear hfz19_1
       try clear hfz19_2
       try clear hfz23_0
       try clear hfz23_1
       try clear hfz23_2
       try clear hfz26_0
       try clear hfz26_1
       try clear hfz27_0
       try clear hfz27_1
       try clear hfz27_2
       try clear hfz33_0
       try clear hfz33_1
       try clear hfz33_2
       try clear hfz35_0
       try clear hfz35_1
       try clear hfz35_2
       try clear p2
       try clear q2
       try clear q3
       obtain ⟨x14_2, x620002_2, u620002, rfl, HA, HK2, HO_620002, BK613, BK614, BK615, BK616, BK619, HB⟩ := hrel
       cases gk with
       | zero => exact absurd HA.out (by simp [imageeditorref11_Put.l1])
       | succ k2 =>
        have H := HA.out
        clear HA
        simp only [imageeditorref11_Put.l1] at H
        by_cases c36 : x14_2 < a0_0
        ·rw [if_pos c36] at H
         have c36b0 : decide (x14_2 < a0_0) = true := decide_eq_true c36
         clear c36
         replace H := Option.bind_eq_some_iff.mp H
         obtain ⟨⟨t620, t621, t622, t623⟩, A370, H⟩ := H
         replace H : (if (wrap64 (x14_2 - ji9)) ≥ 0 then (if (wrap64 (x14_2 - ji9)) < a1_0 then (if (wrap64 (x13_1 - ji11)) ≥ 0 then (if (wrap64 (x13_1 - ji11)) < a1_1 then ((imageeditorref11_Pick.f a1_0 a1_1 l1_2 (wrap64 (x14_2 - ji9)) (wrap64 (x13_1 - ji11))).bind fun bt625 => (if x620002_2.length < 4398046511104 then (imageeditorref11_Put.l1 k2 ji9 ji11 x13_1 (wrap64 (x14_2 + 1)) a0_0 a0_1 l0_2 a1_0 a1_1 l1_2 a0_0 a0_1 (x620002_2 ++ [(⟨bt625.1, bt625.2.1, bt625.2.2.1, bt625.2.2.2⟩ : S26)])) else (none))) else (if x620002_2.length < 4398046511104 then (imageeditorref11_Put.l1 k2 ji9 ji11 x13_1 (wrap64 (x14_2 + 1)) a0_0 a0_1 l0_2 a1_0 a1_1 l1_2 a0_0 a0_1 (x620002_2 ++ [(⟨t620, t621, t622, t623⟩ : S26)])) else (none))) else (if x620002_2.length < 4398046511104 then (imageeditorref11_Put.l1 k2 ji9 ji11 x13_1 (wrap64 (x14_2 + 1)) a0_0 a0_1 l0_2 a1_0 a1_1 l1_2 a0_0 a0_1 (x620002_2 ++ [(⟨t620, t621, t622, t623⟩ : S26)])) else (none))) else (if x620002_2.length < 4398046511104 then (imageeditorref11_Put.l1 k2 ji9 ji11 x13_1 (wrap64 (x14_2 + 1)) a0_0 a0_1 l0_2 a1_0 a1_1 l1_2 a0_0 a0_1 (x620002_2 ++ [(⟨t620, t621, t622, t623⟩ : S26)])) else (none))) else (if x620002_2.length < 4398046511104 then (imageeditorref11_Put.l1 k2 ji9 ji11 x13_1 (wrap64 (x14_2 + 1)) a0_0 a0_1 l0_2 a1_0 a1_1 l1_2 a0_0 a0_1 (x620002_2 ++ [(⟨t620, t621, t622, t623⟩ : S26)])) else (none))) = some (r1, r2, r3, r4) := H
         have A37 := Aside0.mk A370
         clear A370
         by_cases c38 : (wrap64 (x14_2 - ji9)) ≥ 0
         ·rw [if_pos c38] at H
          have c38b0 : decide (0 ≤ (wrap64 (x14_2 - ji9))) = true := decide_eq_true c38
          clear c38
          by_cases c39 : (wrap64 (x14_2 - ji9)) < a1_0
          ·rw [if_pos c39] at H
           have c39b0 : decide ((wrap64 (x14_2 - ji9)) < a1_0) = true := decide_eq_true c39
           clear c39
           by_cases c40 : (wrap64 (x13_1 - ji11)) ≥ 0
           ·rw [if_pos c40] at H
            have c40b0 : decide (0 ≤ (wrap64 (x13_1 - ji11))) = true := decide_eq_true c40
            clear c40
            by_cases c41 : (wrap64 (x13_1 - ji11)) < a1_1
            ·rw [if_pos c41] at H
             have c41b0 : decide ((wrap64 (x13_1 - ji11)) < a1_1) = true := decide_eq_true c41
             clear c41
             replace H := Option.bind_eq_some_iff.mp H
             obtain ⟨⟨t625, t626, t627, t628⟩, A420, H⟩ := H
             replace H : (if x620002_2.length < 4398046511104 then (imageeditorref11_Put.l1 k2 ji9 ji11 x13_1 (wrap64 (x14_2 + 1)) a0_0 a0_1 l0_2 a1_0 a1_1 l1_2 a0_0 a0_1 (x620002_2 ++ [(⟨t625, t626, t627, t628⟩ : S26)])) else (none)) = some (r1, r2, r3, r4) := H
             have A42 := Aside0.mk A420
             clear A420
             by_cases c43 : x620002_2.length < 4398046511104
             ·rw [if_pos c43] at H
              have LMc43 := Aside0.mk c43
              clear c43
              obtain ⟨y629, hy629⟩ : ∃ y_ : List (S26), y_ = (x620002_2 ++ [(⟨t625, t626, t627, t628⟩ : S26)]) := ⟨_, rfl⟩
              replace H : (imageeditorref11_Put.l1 k2 ji9 ji11 x13_1 (wrap64 (x14_2 + 1)) a0_0 a0_1 l0_2 a1_0 a1_1 l1_2 a0_0 a0_1 y629) = some (r1, r2, r3, r4) := by first | (rw [hy629]; with_reducible exact H) | (have H2_ := (Option.bind_some _ _).symm.trans H; rw [hy629]; with_reducible exact H2_) | (have H2_ := (Option.bind_some _ _).symm.trans H; with_reducible exact H2_) | with_reducible exact H | (rw [hy629]; exact H) | exact H
              have Ny629 := Aside0.mk hy629
              clear hy629
              have H' := Aside0.mk H
              clear H
              have hnb44 := NB613_614.out
              have hnc44 := NB614_613.out
              have hnb45 := NB613_615.out
              have hnc45 := NB615_613.out
              have hnb46 := NB613_616.out
              have hnc46 := NB616_613.out
              have hnb47 := NB613_619.out
              have hnc47 := NB619_613.out
              obtain ⟨hcz48_0, hcz48_1, hcz48_2, hfz48_0, hfz48_1, hfz48_2⟩ := zq3 BK613
              go_wp2_with (first | ((with_reducible refine gate_callee (f := 44) rfl ?_); refine goesL_ (some 56) rfl rfl Try.func44 (by kernel_rfl) rfl #[.agg #[.int .i64 a0_0, .int .i64 a0_1, .slice A0_2 l0_2.length c0_2], .int .i64 x14_2, .int .i64 x13_1] rfl (by (try simp only [List.map_toArray, List.map_cons, List.map_nil]); first | done | rfl | (simp only [List.length_drop, List.length_take]; rfl)) ?_; (with_reducible refine (imageeditorref11_Pick.calls a0_0 a0_1 _ _ l0_2 x14_2 x13_1 t620 t621 t622 t623 _ ?side1 ?side2 A37.out).mono ?_); (case side1 => repeat (first | exact (Kd.C_below HR0_2.out HB.out) | (with_reducible refine Kd.C_alloc ?_ _) | (with_reducible refine Kd.C_drewN ?_ _) | (with_reducible refine Kd.C_drew ?_))); (case side2 => exact HC0_2.out); rintro e w49 ⟨rfl, hb⟩; refine ⟨_, rfl, ?_⟩; replace HO_620002 := zr HO_620002 hb; replace BK613 := zk BK613 hb; replace BK614 := zk BK614 hb; replace BK615 := zk BK615 hb; replace BK616 := zk BK616 hb; replace BK619 := zk BK619 hb; replace HB := zb HB hb; (try clear hb); (try clear hb2); (try clear hk); (try clear hi)) | ((with_reducible refine gate_dst (N := 15) rfl ?_); refine box_event ?hg (N := 15) ?hd (cs := #[.int .i64 0, .int .i64 0, .int .i64 0, .int .i64 0]) (t := 26) ?hr ?_; (case hd => rfl); (case hg => rfl); (case hr => first | (go_simp; done) | (go_simp; rfl)); intro gb624 hg w50 hbox hb; have GW624 := zg HB hg; have GE624 := zg HB hg; have NB613_624 := zn BK613 hg; have NB624_613 := zn' BK613 hg; have NB614_624 := zn BK614 hg; have NB624_614 := zn' BK614 hg; have NB615_624 := zn BK615 hg; have NB624_615 := zn' BK615 hg; have NB616_624 := zn BK616 hg; have NB624_616 := zn' BK616 hg; have NB619_624 := zn BK619 hg; have NB624_619 := zn' BK619 hg; have n0_ := Aside0.mk (Kd.R_below (Kd.R_elderB (by exact zr0 HO_620002) gb624 (Nat.le_of_eq hg.symm)) hb); have n1_ := Aside0.mk (hbox); replace BK613 := zk BK613 hb; replace BK614 := zk BK614 hb; replace BK615 := zk BK615 hb; replace BK616 := zk BK616 hb; replace BK619 := zk BK619 hb; replace HB := zb HB hb; clear HO_620002; have HO_620002 := n0_; have BK624 := n1_; clear n0_ n1_; clear hb hbox hg; have hnb51 := NB624_613.out; have hnc51 := NB613_624.out; have hnb52 := NB624_614.out; have hnc52 := NB614_624.out; have hnb53 := NB624_615.out; have hnc53 := NB615_624.out; have hnb54 := NB624_616.out; have hnc54 := NB616_624.out; have hnb55 := NB624_619.out; have hnc55 := NB619_624.out; obtain ⟨hcz56_0, hcz56_1, hcz56_2, hcz56_3, hfz56_0, hfz56_1, hfz56_2, hfz56_3⟩ := zq4 BK624; have hnb57 := NB614_615.out; have hnc57 := NB615_614.out; have hnb58 := NB614_616.out; have hnc58 := NB616_614.out; have hnb59 := NB614_619.out; have hnc59 := NB619_614.out; obtain ⟨hcz60_0, hcz60_1, hcz60_2, hfz60_0, hfz60_1, hfz60_2⟩ := zq3 BK614) | ((with_reducible refine gate_callee (f := 44) rfl ?_); refine goesL_ (some 90) rfl rfl Try.func44 (by kernel_rfl) rfl #[.agg #[.int .i64 a1_0, .int .i64 a1_1, .slice A1_2 l1_2.length c1_2], .int .i64 (wrap64 (x14_2 - ji9)), .int .i64 (wrap64 (x13_1 - ji11))] rfl (by (try simp only [List.map_toArray, List.map_cons, List.map_nil]); first | done | (simp only [hji11, hji9]; rfl) | rfl | (simp only [List.length_drop, List.length_take]; rfl)) ?_; (with_reducible refine (imageeditorref11_Pick.calls a1_0 a1_1 _ _ l1_2 (wrap64 (x14_2 - ji9)) (wrap64 (x13_1 - ji11)) t625 t626 t627 t628 _ ?side1 ?side2 A42.out).mono ?_); (case side1 => exact Kd.C_below HR1_2.out (by exact zbo HB GE624)); (case side2 => exact HC1_2.out); rintro e w61 ⟨rfl, hb⟩; refine ⟨_, rfl, ?_⟩; have n0_ := Aside0.mk (Kd.R_below (by exact zro' HO_620002 (fun k_ hk => hk.2)) hb); have n1_ := Aside0.mk (blk_below (g := gb624) (o := .cells #[.int .i64 t620, .int .i64 t621, .int .i64 t622, .int .i64 t623] 26 (0, 0)) (by exact zp BK624 rfl) hb); have n2_ := Aside0.mk (below_step (by exact zbo HB GE624) hb); replace BK613 := zfk BK613 NB613_624 hb; replace BK614 := zfk BK614 NB614_624 hb; replace BK615 := zfk BK615 NB615_624 hb; replace BK616 := zfk BK616 NB616_624 hb; replace BK619 := zfk BK619 NB619_624 hb; clear HO_620002; clear BK624; clear HB; have HO_620002 := n0_; have BK624 := n1_; have HB := n2_; clear n0_ n1_ n2_; (try clear hb); (try clear hb2); (try clear hk); (try clear hi); obtain ⟨hcz62_0, hcz62_1, hcz62_2, hcz62_3, hfz62_0, hfz62_1, hfz62_2, hfz62_3⟩ := zq4 BK624; have hnb63 := NB619_615.out; have hnc63 := NB615_619.out; have hnb64 := NB619_616.out; have hnc64 := NB616_619.out; obtain ⟨hcz65_0, hcz65_1, hcz65_2, hfz65_0, hfz65_1, hfz65_2⟩ := zq3 BK619) | ((with_reducible refine gate_builtin (b := .append) (xs := #[.tmp 92, .tmp 94]) rfl ?_); at_builtin; refine Kd.R_append k26 (w0 := w) w.heap.size rfl (.tmp 92) (.tmp 94) 22 26 (.agg #[(.int .i64 0), (.int .i64 0), (.int .i64 0), (.int .i64 0)]) 32 rfl Try.underlying22 info26 rfl (by decide) (by omega) u620002 x620002_2 (⟨t625, t626, t627, t628⟩ : S26) [.int .i64 t625, .int .i64 t626, .int .i64 t627, .int .i64 t628] (fun k_ => k_ ≠ gb624) (fun _ => False) rfl (by first | (go_simp; done) | (go_simp; rfl)) ?aP (fun _ hk => hk.elim) ?aF ?aO ?aB ?aS ?aL ?_; (case aP => exact k26_mkM _ _ _ (⟨t625, t626, t627, t628⟩ : S26)); (case aB => exact (by exact zbo HB GE624)); (case aF => exact (fun k_ hk => Kd.freshB (g := gb624) (o := .cells #[.int .i64 t625, .int .i64 t626, .int .i64 t627, .int .i64 t628] 26 (0, 0)) (by exact zp BK624 rfl) k_ hk)); (case aO => exact (by (with_reducible repeat (first | apply Kd.R_alloc | apply Kd.R_drewN | apply Kd.R_drew)); exact Kd.R_mono (Kd.R_far (p := ⟨gb624, 3, none⟩) (Kd.R_far (p := ⟨gb624, 2, none⟩) (Kd.R_far (p := ⟨gb624, 1, none⟩) (Kd.R_far (p := ⟨gb624, 0, none⟩) (Kd.R_mono HO_620002.out (fun k_ hk => (⟨hk, hk.2⟩ : _ ∧ k_ ≠ gb624))) (fun _ hk => hk.2) (.int .i64 t625)) (fun _ hk => hk.2) (.int .i64 t626)) (fun _ hk => hk.2) (.int .i64 t627)) (fun _ hk => hk.2) (.int .i64 t628)) (fun _ hk => hk.1.2))); (case aS => exact (below_size (by exact zbo HB GE624))); (case aL => have := LMc43.out; omega); intro v630 w66 ho hb hg hat; rw [← Ny629.out] at ho; have n0_ := Aside0.mk (blk_grown (zf BK613 NB613_624) hg (Kd.R_ne HO_620002.out BK613.out (by decide))); have n1_ := Aside0.mk (blk_grown (zf BK614 NB614_624) hg (Kd.R_ne HO_620002.out BK614.out (by decide))); have n2_ := Aside0.mk (blk_grown (zf BK615 NB615_624) hg (Kd.R_ne HO_620002.out BK615.out (by decide))); have n3_ := Aside0.mk (blk_grown (zf BK616 NB616_624) hg (Kd.R_ne HO_620002.out BK616.out (by decide))); have n4_ := Aside0.mk (blk_grown (zf BK619 NB619_624) hg (Kd.R_ne HO_620002.out BK619.out (by decide))); have n5_ := Aside0.mk (blk_grown (g := gb624) (o := .cells #[.int .i64 t625, .int .i64 t626, .int .i64 t627, .int .i64 t628] 26 (0, 0)) (by exact zp BK624 rfl) hg (Kd.R_away HO_620002.out (fun _ hk => hk.2))); have n6_ := Aside0.mk (hb); have n7_ := Aside0.mk (ho); clear BK613; clear BK614; clear BK615; clear BK616; clear BK619; clear BK624; clear HB; clear HO_620002; have BK613 := n0_; have BK614 := n1_; have BK615 := n2_; have BK616 := n3_; have BK619 := n4_; have BK624 := n5_; have HB := n6_; have HO631 := n7_; clear n0_ n1_ n2_ n3_ n4_ n5_ n6_ n7_; clear ho hb hg hat; obtain ⟨Ao67, co67, eo67⟩ := Kd.R_slice HO631.out; subst eo67; obtain ⟨hcz68_0, hcz68_1, hcz68_2, hfz68_0, hfz68_1, hfz68_2⟩ := zq3 BK619))
              first | go_roundg k2 | ((try subst hji11); (try subst hji10); (try subst hji9); (try subst hji8); go_roundg k2)
              case measure => have := HK1.out; have := HK2.out; omega
              case rel => first | (exact ⟨(wrap64 (x14_2 + 1)), (y629), (.slice Ao67 y629.length co67), (by first | rfl | (simp; done) | (simp [*]; done)), H', ⟨by have := HK1.out; have := HK2.out; omega⟩, ⟨by (with_reducible repeat (first | apply Kd.R_alloc | apply Kd.R_drewN | apply Kd.R_drew)); exact Kd.R_mono (Kd.R_far (p := ⟨gb619, 2, none⟩) (Kd.R_types HO631.out BK619.out (by decide)) (fun _ hk => hk.2) (.slice Ao67 y629.length co67)) (fun _ hk => trivial)⟩, ⟨by exact zf BK613 NB613_619⟩, ⟨by exact zf BK614 NB614_619⟩, ⟨by exact zf BK615 NB615_619⟩, ⟨by exact zf BK616 NB616_619⟩, ⟨by exact zp BK619 rfl⟩, ⟨by exact zbo HB GE619⟩⟩) | (exact ⟨(wrap64 (x14_2 + 1)), (y629), (.slice Ao67 y629.length co67), (by first | rfl | (simp; done) | (simp [*]; done)), H', ⟨by have := HK1.out; have := HK2.out; omega⟩, ⟨by (with_reducible repeat (first | apply Kd.R_alloc | apply Kd.R_drewN | apply Kd.R_drew)); exact Kd.R_mono (Kd.R_far (p := ⟨gb619, 2, none⟩) (Kd.R_types HO631.out BK619.out (by decide)) (fun _ hk => hk.2) (.slice Ao67 y629.length co67)) (fun _ hk => trivial)⟩, ⟨by exact zf BK613 NB613_619⟩, ⟨by exact zf BK614 NB614_619⟩, ⟨by exact zf BK615 NB615_619⟩, ⟨by exact zf BK616 NB616_619⟩, ⟨by exact zp BK619 rfl⟩, ⟨by exact zbo HB GE619⟩⟩)
             ·rw [if_neg c43] at H
              exact absurd H (by simp)
            ·rw [if_neg c41] at H
             have c41b0 : decide ((wrap64 (x13_1 - ji11)) < a1_1) = false := decide_eq_false c41
             clear c41
             by_cases c69 : x620002_2.length < 4398046511104
             ·rw [if_pos c69] at H
              have LMc69 := Aside0.mk c69
              clear c69
              obtain ⟨y632, hy632⟩ : ∃ y_ : List (S26), y_ = (x620002_2 ++ [(⟨t620, t621, t622, t623⟩ : S26)]) := ⟨_, rfl⟩
              replace H : (imageeditorref11_Put.l1 k2 ji9 ji11 x13_1 (wrap64 (x14_2 + 1)) a0_0 a0_1 l0_2 a1_0 a1_1 l1_2 a0_0 a0_1 y632) = some (r1, r2, r3, r4) := by first | (rw [hy632]; with_reducible exact H) | (have H2_ := (Option.bind_some _ _).symm.trans H; rw [hy632]; with_reducible exact H2_) | (have H2_ := (Option.bind_some _ _).symm.trans H; with_reducible exact H2_) | with_reducible exact H | (rw [hy632]; exact H) | exact H
              have Ny632 := Aside0.mk hy632
              clear hy632
              have H' := Aside0.mk H
              clear H
              have hnb70 := NB613_614.out
              have hnc70 := NB614_613.out
              have hnb71 := NB613_615.out
              have hnc71 := NB615_613.out
              have hnb72 := NB613_616.out
              have hnc72 := NB616_613.out
              have hnb73 := NB613_619.out
              have hnc73 := NB619_613.out
              obtain ⟨hcz74_0, hcz74_1, hcz74_2, hfz74_0, hfz74_1, hfz74_2⟩ := zq3 BK613
              go_wp2_with (first | ((with_reducible refine gate_callee (f := 44) rfl ?_); refine goesL_ (some 56) rfl rfl Try.func44 (by kernel_rfl) rfl #[.agg #[.int .i64 a0_0, .int .i64 a0_1, .slice A0_2 l0_2.length c0_2], .int .i64 x14_2, .int .i64 x13_1] rfl (by (try simp only [List.map_toArray, List.map_cons, List.map_nil]); first | done | rfl | (simp only [List.length_drop, List.length_take]; rfl)) ?_; (with_reducible refine (imageeditorref11_Pick.calls a0_0 a0_1 _ _ l0_2 x14_2 x13_1 t620 t621 t622 t623 _ ?side1 ?side2 A37.out).mono ?_); (case side1 => repeat (first | exact (Kd.C_below HR0_2.out HB.out) | (with_reducible refine Kd.C_alloc ?_ _) | (with_reducible refine Kd.C_drewN ?_ _) | (with_reducible refine Kd.C_drew ?_))); (case side2 => exact HC0_2.out); rintro e w75 ⟨rfl, hb⟩; refine ⟨_, rfl, ?_⟩; replace HO_620002 := zr HO_620002 hb; replace BK613 := zk BK613 hb; replace BK614 := zk BK614 hb; replace BK615 := zk BK615 hb; replace BK616 := zk BK616 hb; replace BK619 := zk BK619 hb; replace HB := zb HB hb; (try clear hb); (try clear hb2); (try clear hk); (try clear hi)) | ((with_reducible refine gate_dst (N := 15) rfl ?_); refine box_event ?hg (N := 15) ?hd (cs := #[.int .i64 0, .int .i64 0, .int .i64 0, .int .i64 0]) (t := 26) ?hr ?_; (case hd => rfl); (case hg => rfl); (case hr => first | (go_simp; done) | (go_simp; rfl)); intro gb624 hg w76 hbox hb; have GW624 := zg HB hg; have GE624 := zg HB hg; have NB613_624 := zn BK613 hg; have NB624_613 := zn' BK613 hg; have NB614_624 := zn BK614 hg; have NB624_614 := zn' BK614 hg; have NB615_624 := zn BK615 hg; have NB624_615 := zn' BK615 hg; have NB616_624 := zn BK616 hg; have NB624_616 := zn' BK616 hg; have NB619_624 := zn BK619 hg; have NB624_619 := zn' BK619 hg; have n0_ := Aside0.mk (Kd.R_below (Kd.R_elderB (by exact zr0 HO_620002) gb624 (Nat.le_of_eq hg.symm)) hb); have n1_ := Aside0.mk (hbox); replace BK613 := zk BK613 hb; replace BK614 := zk BK614 hb; replace BK615 := zk BK615 hb; replace BK616 := zk BK616 hb; replace BK619 := zk BK619 hb; replace HB := zb HB hb; clear HO_620002; have HO_620002 := n0_; have BK624 := n1_; clear n0_ n1_; clear hb hbox hg; have hnb77 := NB624_613.out; have hnc77 := NB613_624.out; have hnb78 := NB624_614.out; have hnc78 := NB614_624.out; have hnb79 := NB624_615.out; have hnc79 := NB615_624.out; have hnb80 := NB624_616.out; have hnc80 := NB616_624.out; have hnb81 := NB624_619.out; have hnc81 := NB619_624.out; obtain ⟨hcz82_0, hcz82_1, hcz82_2, hcz82_3, hfz82_0, hfz82_1, hfz82_2, hfz82_3⟩ := zq4 BK624; have hnb83 := NB614_615.out; have hnc83 := NB615_614.out; have hnb84 := NB614_616.out; have hnc84 := NB616_614.out; have hnb85 := NB614_619.out; have hnc85 := NB619_614.out; obtain ⟨hcz86_0, hcz86_1, hcz86_2, hfz86_0, hfz86_1, hfz86_2⟩ := zq3 BK614; have hnb87 := NB619_615.out; have hnc87 := NB615_619.out; have hnb88 := NB619_616.out; have hnc88 := NB616_619.out; obtain ⟨hcz89_0, hcz89_1, hcz89_2, hfz89_0, hfz89_1, hfz89_2⟩ := zq3 BK619) | ((with_reducible refine gate_builtin (b := .append) (xs := #[.tmp 92, .tmp 94]) rfl ?_); at_builtin; refine Kd.R_append k26 (w0 := w) w.heap.size rfl (.tmp 92) (.tmp 94) 22 26 (.agg #[(.int .i64 0), (.int .i64 0), (.int .i64 0), (.int .i64 0)]) 32 rfl Try.underlying22 info26 rfl (by decide) (by omega) u620002 x620002_2 (⟨t620, t621, t622, t623⟩ : S26) [.int .i64 t620, .int .i64 t621, .int .i64 t622, .int .i64 t623] (fun k_ => k_ ≠ gb624) (fun _ => False) rfl (by first | (go_simp; done) | (go_simp; rfl)) ?aP (fun _ hk => hk.elim) ?aF ?aO ?aB ?aS ?aL ?_; (case aP => exact k26_mkM _ _ _ (⟨t620, t621, t622, t623⟩ : S26)); (case aB => exact (by exact zbo HB GE624)); (case aF => exact (fun k_ hk => Kd.freshB (g := gb624) (o := .cells #[.int .i64 t620, .int .i64 t621, .int .i64 t622, .int .i64 t623] 26 (0, 0)) (by exact zp BK624 rfl) k_ hk)); (case aO => exact (by (with_reducible repeat (first | apply Kd.R_alloc | apply Kd.R_drewN | apply Kd.R_drew)); exact Kd.R_mono (Kd.R_far (p := ⟨gb624, 3, none⟩) (Kd.R_far (p := ⟨gb624, 2, none⟩) (Kd.R_far (p := ⟨gb624, 1, none⟩) (Kd.R_far (p := ⟨gb624, 0, none⟩) (Kd.R_mono HO_620002.out (fun k_ hk => (⟨hk, hk.2⟩ : _ ∧ k_ ≠ gb624))) (fun _ hk => hk.2) (.int .i64 t620)) (fun _ hk => hk.2) (.int .i64 t621)) (fun _ hk => hk.2) (.int .i64 t622)) (fun _ hk => hk.2) (.int .i64 t623)) (fun _ hk => hk.1.2))); (case aS => exact (below_size (by exact zbo HB GE624))); (case aL => have := LMc69.out; omega); intro v633 w90 ho hb hg hat; rw [← Ny632.out] at ho; have n0_ := Aside0.mk (blk_grown (zf BK613 NB613_624) hg (Kd.R_ne HO_620002.out BK613.out (by decide))); have n1_ := Aside0.mk (blk_grown (zf BK614 NB614_624) hg (Kd.R_ne HO_620002.out BK614.out (by decide))); have n2_ := Aside0.mk (blk_grown (zf BK615 NB615_624) hg (Kd.R_ne HO_620002.out BK615.out (by decide))); have n3_ := Aside0.mk (blk_grown (zf BK616 NB616_624) hg (Kd.R_ne HO_620002.out BK616.out (by decide))); have n4_ := Aside0.mk (blk_grown (zf BK619 NB619_624) hg (Kd.R_ne HO_620002.out BK619.out (by decide))); have n5_ := Aside0.mk (blk_grown (g := gb624) (o := .cells #[.int .i64 t620, .int .i64 t621, .int .i64 t622, .int .i64 t623] 26 (0, 0)) (by exact zp BK624 rfl) hg (Kd.R_away HO_620002.out (fun _ hk => hk.2))); have n6_ := Aside0.mk (hb); have n7_ := Aside0.mk (ho); clear BK613; clear BK614; clear BK615; clear BK616; clear BK619; clear BK624; clear HB; clear HO_620002; have BK613 := n0_; have BK614 := n1_; have BK615 := n2_; have BK616 := n3_; have BK619 := n4_; have BK624 := n5_; have HB := n6_; have HO634 := n7_; clear n0_ n1_ n2_ n3_ n4_ n5_ n6_ n7_; clear ho hb hg hat; obtain ⟨Ao91, co91, eo91⟩ := Kd.R_slice HO634.out; subst eo91; obtain ⟨hcz92_0, hcz92_1, hcz92_2, hfz92_0, hfz92_1, hfz92_2⟩ := zq3 BK619))
              first | go_roundg k2 | ((try subst hji11); (try subst hji10); (try subst hji9); (try subst hji8); go_roundg k2)
              case measure => have := HK1.out; have := HK2.out; omega
              case rel => first | (exact ⟨(wrap64 (x14_2 + 1)), (y632), (.slice Ao91 y632.length co91), (by first | rfl | (simp; done) | (simp [*]; done)), H', ⟨by have := HK1.out; have := HK2.out; omega⟩, ⟨by (with_reducible repeat (first | apply Kd.R_alloc | apply Kd.R_drewN | apply Kd.R_drew)); exact Kd.R_mono (Kd.R_far (p := ⟨gb619, 2, none⟩) (Kd.R_types HO634.out BK619.out (by decide)) (fun _ hk => hk.2) (.slice Ao91 y632.length co91)) (fun _ hk => trivial)⟩, ⟨by exact zf BK613 NB613_619⟩, ⟨by exact zf BK614 NB614_619⟩, ⟨by exact zf BK615 NB615_619⟩, ⟨by exact zf BK616 NB616_619⟩, ⟨by exact zp BK619 rfl⟩, ⟨by exact zbo HB GE619⟩⟩) | (exact ⟨(wrap64 (x14_2 + 1)), (y632), (.slice Ao91 y632.length co91), (by first | rfl | (simp; done) | (simp [*]; done)), H', ⟨by have := HK1.out; have := HK2.out; omega⟩, ⟨by (with_reducible repeat (first | apply Kd.R_alloc | apply Kd.R_drewN | apply Kd.R_drew)); exact Kd.R_mono (Kd.R_far (p := ⟨gb619, 2, none⟩) (Kd.R_types HO634.out BK619.out (by decide)) (fun _ hk => hk.2) (.slice Ao91 y632.length co91)) (fun _ hk => trivial)⟩, ⟨by exact zf BK613 NB613_619⟩, ⟨by exact zf BK614 NB614_619⟩, ⟨by exact zf BK615 NB615_619⟩, ⟨by exact zf BK616 NB616_619⟩, ⟨by exact zp BK619 rfl⟩, ⟨by exact zbo HB GE619⟩⟩)
             ·rw [if_neg c69] at H
              exact absurd H (by simp)
           ·rw [if_neg c40] at H
            have c40b0 : decide (0 ≤ (wrap64 (x13_1 - ji11))) = false := decide_eq_false c40
            clear c40
            by_cases c93 : x620002_2.length < 4398046511104
            ·rw [if_pos c93] at H
             have LMc93 := Aside0.mk c93
             clear c93
             obtain ⟨y635, hy635⟩ : ∃ y_ : List (S26), y_ = (x620002_2 ++ [(⟨t620, t621, t622, t623⟩ : S26)]) := ⟨_, rfl⟩
             replace H : (imageeditorref11_Put.l1 k2 ji9 ji11 x13_1 (wrap64 (x14_2 + 1)) a0_0 a0_1 l0_2 a1_0 a1_1 l1_2 a0_0 a0_1 y635) = some (r1, r2, r3, r4) := by first | (rw [hy635]; with_reducible exact H) | (have H2_ := (Option.bind_some _ _).symm.trans H; rw [hy635]; with_reducible exact H2_) | (have H2_ := (Option.bind_some _ _).symm.trans H; with_reducible exact H2_) | with_reducible exact H | (rw [hy635]; exact H) | exact H
             have Ny635 := Aside0.mk hy635
             clear hy635
             have H' := Aside0.mk H
             clear H
             have hnb94 := NB613_614.out
             have hnc94 := NB614_613.out
             have hnb95 := NB613_615.out
             have hnc95 := NB615_613.out
             have hnb96 := NB613_616.out
             have hnc96 := NB616_613.out
             have hnb97 := NB613_619.out
             have hnc97 := NB619_613.out
             obtain ⟨hcz98_0, hcz98_1, hcz98_2, hfz98_0, hfz98_1, hfz98_2⟩ := zq3 BK613
             go_wp2_with (first | ((with_reducible refine gate_callee (f := 44) rfl ?_); refine goesL_ (some 56) rfl rfl Try.func44 (by kernel_rfl) rfl #[.agg #[.int .i64 a0_0, .int .i64 a0_1, .slice A0_2 l0_2.length c0_2], .int .i64 x14_2, .int .i64 x13_1] rfl (by (try simp only [List.map_toArray, List.map_cons, List.map_nil]); first | done | rfl | (simp only [List.length_drop, List.length_take]; rfl)) ?_; (with_reducible refine (imageeditorref11_Pick.calls a0_0 a0_1 _ _ l0_2 x14_2 x13_1 t620 t621 t622 t623 _ ?side1 ?side2 A37.out).mono ?_); (case side1 => repeat (first | exact (Kd.C_below HR0_2.out HB.out) | (with_reducible refine Kd.C_alloc ?_ _) | (with_reducible refine Kd.C_drewN ?_ _) | (with_reducible refine Kd.C_drew ?_))); (case side2 => exact HC0_2.out); rintro e w99 ⟨rfl, hb⟩; refine ⟨_, rfl, ?_⟩; replace HO_620002 := zr HO_620002 hb; replace BK613 := zk BK613 hb; replace BK614 := zk BK614 hb; replace BK615 := zk BK615 hb; replace BK616 := zk BK616 hb; replace BK619 := zk BK619 hb; replace HB := zb HB hb; (try clear hb); (try clear hb2); (try clear hk); (try clear hi)) | ((with_reducible refine gate_dst (N := 15) rfl ?_); refine box_event ?hg (N := 15) ?hd (cs := #[.int .i64 0, .int .i64 0, .int .i64 0, .int .i64 0]) (t := 26) ?hr ?_; (case hd => rfl); (case hg => rfl); (case hr => first | (go_simp; done) | (go_simp; rfl)); intro gb624 hg w100 hbox hb; have GW624 := zg HB hg; have GE624 := zg HB hg; have NB613_624 := zn BK613 hg; have NB624_613 := zn' BK613 hg; have NB614_624 := zn BK614 hg; have NB624_614 := zn' BK614 hg; have NB615_624 := zn BK615 hg; have NB624_615 := zn' BK615 hg; have NB616_624 := zn BK616 hg; have NB624_616 := zn' BK616 hg; have NB619_624 := zn BK619 hg; have NB624_619 := zn' BK619 hg; have n0_ := Aside0.mk (Kd.R_below (Kd.R_elderB (by exact zr0 HO_620002) gb624 (Nat.le_of_eq hg.symm)) hb); have n1_ := Aside0.mk (hbox); replace BK613 := zk BK613 hb; replace BK614 := zk BK614 hb; replace BK615 := zk BK615 hb; replace BK616 := zk BK616 hb; replace BK619 := zk BK619 hb; replace HB := zb HB hb; clear HO_620002; have HO_620002 := n0_; have BK624 := n1_; clear n0_ n1_; clear hb hbox hg; have hnb101 := NB624_613.out; have hnc101 := NB613_624.out; have hnb102 := NB624_614.out; have hnc102 := NB614_624.out; have hnb103 := NB624_615.out; have hnc103 := NB615_624.out; have hnb104 := NB624_616.out; have hnc104 := NB616_624.out; have hnb105 := NB624_619.out; have hnc105 := NB619_624.out; obtain ⟨hcz106_0, hcz106_1, hcz106_2, hcz106_3, hfz106_0, hfz106_1, hfz106_2, hfz106_3⟩ := zq4 BK624; have hnb107 := NB614_615.out; have hnc107 := NB615_614.out; have hnb108 := NB614_616.out; have hnc108 := NB616_614.out; have hnb109 := NB614_619.out; have hnc109 := NB619_614.out; obtain ⟨hcz110_0, hcz110_1, hcz110_2, hfz110_0, hfz110_1, hfz110_2⟩ := zq3 BK614; have hnb111 := NB619_615.out; have hnc111 := NB615_619.out; have hnb112 := NB619_616.out; have hnc112 := NB616_619.out; obtain ⟨hcz113_0, hcz113_1, hcz113_2, hfz113_0, hfz113_1, hfz113_2⟩ := zq3 BK619) | ((with_reducible refine gate_builtin (b := .append) (xs := #[.tmp 92, .tmp 94]) rfl ?_); at_builtin; refine Kd.R_append k26 (w0 := w) w.heap.size rfl (.tmp 92) (.tmp 94) 22 26 (.agg #[(.int .i64 0), (.int .i64 0), (.int .i64 0), (.int .i64 0)]) 32 rfl Try.underlying22 info26 rfl (by decide) (by omega) u620002 x620002_2 (⟨t620, t621, t622, t623⟩ : S26) [.int .i64 t620, .int .i64 t621, .int .i64 t622, .int .i64 t623] (fun k_ => k_ ≠ gb624) (fun _ => False) rfl (by first | (go_simp; done) | (go_simp; rfl)) ?aP (fun _ hk => hk.elim) ?aF ?aO ?aB ?aS ?aL ?_; (case aP => exact k26_mkM _ _ _ (⟨t620, t621, t622, t623⟩ : S26)); (case aB => exact (by exact zbo HB GE624)); (case aF => exact (fun k_ hk => Kd.freshB (g := gb624) (o := .cells #[.int .i64 t620, .int .i64 t621, .int .i64 t622, .int .i64 t623] 26 (0, 0)) (by exact zp BK624 rfl) k_ hk)); (case aO => exact (by (with_reducible repeat (first | apply Kd.R_alloc | apply Kd.R_drewN | apply Kd.R_drew)); exact Kd.R_mono (Kd.R_far (p := ⟨gb624, 3, none⟩) (Kd.R_far (p := ⟨gb624, 2, none⟩) (Kd.R_far (p := ⟨gb624, 1, none⟩) (Kd.R_far (p := ⟨gb624, 0, none⟩) (Kd.R_mono HO_620002.out (fun k_ hk => (⟨hk, hk.2⟩ : _ ∧ k_ ≠ gb624))) (fun _ hk => hk.2) (.int .i64 t620)) (fun _ hk => hk.2) (.int .i64 t621)) (fun _ hk => hk.2) (.int .i64 t622)) (fun _ hk => hk.2) (.int .i64 t623)) (fun _ hk => hk.1.2))); (case aS => exact (below_size (by exact zbo HB GE624))); (case aL => have := LMc93.out; omega); intro v636 w114 ho hb hg hat; rw [← Ny635.out] at ho; have n0_ := Aside0.mk (blk_grown (zf BK613 NB613_624) hg (Kd.R_ne HO_620002.out BK613.out (by decide))); have n1_ := Aside0.mk (blk_grown (zf BK614 NB614_624) hg (Kd.R_ne HO_620002.out BK614.out (by decide))); have n2_ := Aside0.mk (blk_grown (zf BK615 NB615_624) hg (Kd.R_ne HO_620002.out BK615.out (by decide))); have n3_ := Aside0.mk (blk_grown (zf BK616 NB616_624) hg (Kd.R_ne HO_620002.out BK616.out (by decide))); have n4_ := Aside0.mk (blk_grown (zf BK619 NB619_624) hg (Kd.R_ne HO_620002.out BK619.out (by decide))); have n5_ := Aside0.mk (blk_grown (g := gb624) (o := .cells #[.int .i64 t620, .int .i64 t621, .int .i64 t622, .int .i64 t623] 26 (0, 0)) (by exact zp BK624 rfl) hg (Kd.R_away HO_620002.out (fun _ hk => hk.2))); have n6_ := Aside0.mk (hb); have n7_ := Aside0.mk (ho); clear BK613; clear BK614; clear BK615; clear BK616; clear BK619; clear BK624; clear HB; clear HO_620002; have BK613 := n0_; have BK614 := n1_; have BK615 := n2_; have BK616 := n3_; have BK619 := n4_; have BK624 := n5_; have HB := n6_; have HO637 := n7_; clear n0_ n1_ n2_ n3_ n4_ n5_ n6_ n7_; clear ho hb hg hat; obtain ⟨Ao115, co115, eo115⟩ := Kd.R_slice HO637.out; subst eo115; obtain ⟨hcz116_0, hcz116_1, hcz116_2, hfz116_0, hfz116_1, hfz116_2⟩ := zq3 BK619))
             first | go_roundg k2 | ((try subst hji11); (try subst hji10); (try subst hji9); (try subst hji8); go_roundg k2)
             case measure => have := HK1.out; have := HK2.out; omega
             case rel => first | (exact ⟨(wrap64 (x14_2 + 1)), (y635), (.slice Ao115 y635.length co115), (by first | rfl | (simp; done) | (simp [*]; done)), H', ⟨by have := HK1.out; have := HK2.out; omega⟩, ⟨by (with_reducible repeat (first | apply Kd.R_alloc | apply Kd.R_drewN | apply Kd.R_drew)); exact Kd.R_mono (Kd.R_far (p := ⟨gb619, 2, none⟩) (Kd.R_types HO637.out BK619.out (by decide)) (fun _ hk => hk.2) (.slice Ao115 y635.length co115)) (fun _ hk => trivial)⟩, ⟨by exact zf BK613 NB613_619⟩, ⟨by exact zf BK614 NB614_619⟩, ⟨by exact zf BK615 NB615_619⟩, ⟨by exact zf BK616 NB616_619⟩, ⟨by exact zp BK619 rfl⟩, ⟨by exact zbo HB GE619⟩⟩) | (exact ⟨(wrap64 (x14_2 + 1)), (y635), (.slice Ao115 y635.length co115), (by first | rfl | (simp; done) | (simp [*]; done)), H', ⟨by have := HK1.out; have := HK2.out; omega⟩, ⟨by (with_reducible repeat (first | apply Kd.R_alloc | apply Kd.R_drewN | apply Kd.R_drew)); exact Kd.R_mono (Kd.R_far (p := ⟨gb619, 2, none⟩) (Kd.R_types HO637.out BK619.out (by decide)) (fun _ hk => hk.2) (.slice Ao115 y635.length co115)) (fun _ hk => trivial)⟩, ⟨by exact zf BK613 NB613_619⟩, ⟨by exact zf BK614 NB614_619⟩, ⟨by exact zf BK615 NB615_619⟩, ⟨by exact zf BK616 NB616_619⟩, ⟨by exact zp BK619 rfl⟩, ⟨by exact zbo HB GE619⟩⟩)
            ·rw [if_neg c93] at H
             exact absurd H (by simp)
          ·rw [if_neg c39] at H
           have c39b0 : decide ((wrap64 (x14_2 - ji9)) < a1_0) = false := decide_eq_false c39
           clear c39
           by_cases c117 : x620002_2.length < 4398046511104
           ·rw [if_pos c117] at H
            have LMc117 := Aside0.mk c117
            clear c117
            obtain ⟨y638, hy638⟩ : ∃ y_ : List (S26), y_ = (x620002_2 ++ [(⟨t620, t621, t622, t623⟩ : S26)]) := ⟨_, rfl⟩
            replace H : (imageeditorref11_Put.l1 k2 ji9 ji11 x13_1 (wrap64 (x14_2 + 1)) a0_0 a0_1 l0_2 a1_0 a1_1 l1_2 a0_0 a0_1 y638) = some (r1, r2, r3, r4) := by first | (rw [hy638]; with_reducible exact H) | (have H2_ := (Option.bind_some _ _).symm.trans H; rw [hy638]; with_reducible exact H2_) | (have H2_ := (Option.bind_some _ _).symm.trans H; with_reducible exact H2_) | with_reducible exact H | (rw [hy638]; exact H) | exact H
            have Ny638 := Aside0.mk hy638
            clear hy638
            have H' := Aside0.mk H
            clear H
            have hnb118 := NB613_614.out
            have hnc118 := NB614_613.out
            have hnb119 := NB613_615.out
            have hnc119 := NB615_613.out
            have hnb120 := NB613_616.out
            have hnc120 := NB616_613.out
            have hnb121 := NB613_619.out
            have hnc121 := NB619_613.out
            obtain ⟨hcz122_0, hcz122_1, hcz122_2, hfz122_0, hfz122_1, hfz122_2⟩ := zq3 BK613
            go_wp2_with (first | ((with_reducible refine gate_callee (f := 44) rfl ?_); refine goesL_ (some 56) rfl rfl Try.func44 (by kernel_rfl) rfl #[.agg #[.int .i64 a0_0, .int .i64 a0_1, .slice A0_2 l0_2.length c0_2], .int .i64 x14_2, .int .i64 x13_1] rfl (by (try simp only [List.map_toArray, List.map_cons, List.map_nil]); first | done | rfl | (simp only [List.length_drop, List.length_take]; rfl)) ?_; (with_reducible refine (imageeditorref11_Pick.calls a0_0 a0_1 _ _ l0_2 x14_2 x13_1 t620 t621 t622 t623 _ ?side1 ?side2 A37.out).mono ?_); (case side1 => repeat (first | exact (Kd.C_below HR0_2.out HB.out) | (with_reducible refine Kd.C_alloc ?_ _) | (with_reducible refine Kd.C_drewN ?_ _) | (with_reducible refine Kd.C_drew ?_))); (case side2 => exact HC0_2.out); rintro e w123 ⟨rfl, hb⟩; refine ⟨_, rfl, ?_⟩; replace HO_620002 := zr HO_620002 hb; replace BK613 := zk BK613 hb; replace BK614 := zk BK614 hb; replace BK615 := zk BK615 hb; replace BK616 := zk BK616 hb; replace BK619 := zk BK619 hb; replace HB := zb HB hb; (try clear hb); (try clear hb2); (try clear hk); (try clear hi)) | ((with_reducible refine gate_dst (N := 15) rfl ?_); refine box_event ?hg (N := 15) ?hd (cs := #[.int .i64 0, .int .i64 0, .int .i64 0, .int .i64 0]) (t := 26) ?hr ?_; (case hd => rfl); (case hg => rfl); (case hr => first | (go_simp; done) | (go_simp; rfl)); intro gb624 hg w124 hbox hb; have GW624 := zg HB hg; have GE624 := zg HB hg; have NB613_624 := zn BK613 hg; have NB624_613 := zn' BK613 hg; have NB614_624 := zn BK614 hg; have NB624_614 := zn' BK614 hg; have NB615_624 := zn BK615 hg; have NB624_615 := zn' BK615 hg; have NB616_624 := zn BK616 hg; have NB624_616 := zn' BK616 hg; have NB619_624 := zn BK619 hg; have NB624_619 := zn' BK619 hg; have n0_ := Aside0.mk (Kd.R_below (Kd.R_elderB (by exact zr0 HO_620002) gb624 (Nat.le_of_eq hg.symm)) hb); have n1_ := Aside0.mk (hbox); replace BK613 := zk BK613 hb; replace BK614 := zk BK614 hb; replace BK615 := zk BK615 hb; replace BK616 := zk BK616 hb; replace BK619 := zk BK619 hb; replace HB := zb HB hb; clear HO_620002; have HO_620002 := n0_; have BK624 := n1_; clear n0_ n1_; clear hb hbox hg; have hnb125 := NB624_613.out; have hnc125 := NB613_624.out; have hnb126 := NB624_614.out; have hnc126 := NB614_624.out; have hnb127 := NB624_615.out; have hnc127 := NB615_624.out; have hnb128 := NB624_616.out; have hnc128 := NB616_624.out; have hnb129 := NB624_619.out; have hnc129 := NB619_624.out; obtain ⟨hcz130_0, hcz130_1, hcz130_2, hcz130_3, hfz130_0, hfz130_1, hfz130_2, hfz130_3⟩ := zq4 BK624; have hnb131 := NB614_615.out; have hnc131 := NB615_614.out; have hnb132 := NB614_616.out; have hnc132 := NB616_614.out; have hnb133 := NB614_619.out; have hnc133 := NB619_614.out; obtain ⟨hcz134_0, hcz134_1, hcz134_2, hfz134_0, hfz134_1, hfz134_2⟩ := zq3 BK614; have hnb135 := NB619_615.out; have hnc135 := NB615_619.out; have hnb136 := NB619_616.out; have hnc136 := NB616_619.out; obtain ⟨hcz137_0, hcz137_1, hcz137_2, hfz137_0, hfz137_1, hfz137_2⟩ := zq3 BK619) | ((with_reducible refine gate_builtin (b := .append) (xs := #[.tmp 92, .tmp 94]) rfl ?_); at_builtin; refine Kd.R_append k26 (w0 := w) w.heap.size rfl (.tmp 92) (.tmp 94) 22 26 (.agg #[(.int .i64 0), (.int .i64 0), (.int .i64 0), (.int .i64 0)]) 32 rfl Try.underlying22 info26 rfl (by decide) (by omega) u620002 x620002_2 (⟨t620, t621, t622, t623⟩ : S26) [.int .i64 t620, .int .i64 t621, .int .i64 t622, .int .i64 t623] (fun k_ => k_ ≠ gb624) (fun _ => False) rfl (by first | (go_simp; done) | (go_simp; rfl)) ?aP (fun _ hk => hk.elim) ?aF ?aO ?aB ?aS ?aL ?_; (case aP => exact k26_mkM _ _ _ (⟨t620, t621, t622, t623⟩ : S26)); (case aB => exact (by exact zbo HB GE624)); (case aF => exact (fun k_ hk => Kd.freshB (g := gb624) (o := .cells #[.int .i64 t620, .int .i64 t621, .int .i64 t622, .int .i64 t623] 26 (0, 0)) (by exact zp BK624 rfl) k_ hk)); (case aO => exact (by (with_reducible repeat (first | apply Kd.R_alloc | apply Kd.R_drewN | apply Kd.R_drew)); exact Kd.R_mono (Kd.R_far (p := ⟨gb624, 3, none⟩) (Kd.R_far (p := ⟨gb624, 2, none⟩) (Kd.R_far (p := ⟨gb624, 1, none⟩) (Kd.R_far (p := ⟨gb624, 0, none⟩) (Kd.R_mono HO_620002.out (fun k_ hk => (⟨hk, hk.2⟩ : _ ∧ k_ ≠ gb624))) (fun _ hk => hk.2) (.int .i64 t620)) (fun _ hk => hk.2) (.int .i64 t621)) (fun _ hk => hk.2) (.int .i64 t622)) (fun _ hk => hk.2) (.int .i64 t623)) (fun _ hk => hk.1.2))); (case aS => exact (below_size (by exact zbo HB GE624))); (case aL => have := LMc117.out; omega); intro v639 w138 ho hb hg hat; rw [← Ny638.out] at ho; have n0_ := Aside0.mk (blk_grown (zf BK613 NB613_624) hg (Kd.R_ne HO_620002.out BK613.out (by decide))); have n1_ := Aside0.mk (blk_grown (zf BK614 NB614_624) hg (Kd.R_ne HO_620002.out BK614.out (by decide))); have n2_ := Aside0.mk (blk_grown (zf BK615 NB615_624) hg (Kd.R_ne HO_620002.out BK615.out (by decide))); have n3_ := Aside0.mk (blk_grown (zf BK616 NB616_624) hg (Kd.R_ne HO_620002.out BK616.out (by decide))); have n4_ := Aside0.mk (blk_grown (zf BK619 NB619_624) hg (Kd.R_ne HO_620002.out BK619.out (by decide))); have n5_ := Aside0.mk (blk_grown (g := gb624) (o := .cells #[.int .i64 t620, .int .i64 t621, .int .i64 t622, .int .i64 t623] 26 (0, 0)) (by exact zp BK624 rfl) hg (Kd.R_away HO_620002.out (fun _ hk => hk.2))); have n6_ := Aside0.mk (hb); have n7_ := Aside0.mk (ho); clear BK613; clear BK614; clear BK615; clear BK616; clear BK619; clear BK624; clear HB; clear HO_620002; have BK613 := n0_; have BK614 := n1_; have BK615 := n2_; have BK616 := n3_; have BK619 := n4_; have BK624 := n5_; have HB := n6_; have HO640 := n7_; clear n0_ n1_ n2_ n3_ n4_ n5_ n6_ n7_; clear ho hb hg hat; obtain ⟨Ao139, co139, eo139⟩ := Kd.R_slice HO640.out; subst eo139; obtain ⟨hcz140_0, hcz140_1, hcz140_2, hfz140_0, hfz140_1, hfz140_2⟩ := zq3 BK619))
            first | go_roundg k2 | ((try subst hji11); (try subst hji10); (try subst hji9); (try subst hji8); go_roundg k2)
            case measure => have := HK1.out; have := HK2.out; omega
            case rel => first | (exact ⟨(wrap64 (x14_2 + 1)), (y638), (.slice Ao139 y638.length co139), (by first | rfl | (simp; done) | (simp [*]; done)), H', ⟨by have := HK1.out; have := HK2.out; omega⟩, ⟨by (with_reducible repeat (first | apply Kd.R_alloc | apply Kd.R_drewN | apply Kd.R_drew)); exact Kd.R_mono (Kd.R_far (p := ⟨gb619, 2, none⟩) (Kd.R_types HO640.out BK619.out (by decide)) (fun _ hk => hk.2) (.slice Ao139 y638.length co139)) (fun _ hk => trivial)⟩, ⟨by exact zf BK613 NB613_619⟩, ⟨by exact zf BK614 NB614_619⟩, ⟨by exact zf BK615 NB615_619⟩, ⟨by exact zf BK616 NB616_619⟩, ⟨by exact zp BK619 rfl⟩, ⟨by exact zbo HB GE619⟩⟩) | (exact ⟨(wrap64 (x14_2 + 1)), (y638), (.slice Ao139 y638.length co139), (by first | rfl | (simp; done) | (simp [*]; done)), H', ⟨by have := HK1.out; have := HK2.out; omega⟩, ⟨by (with_reducible repeat (first | apply Kd.R_alloc | apply Kd.R_drewN | apply Kd.R_drew)); exact Kd.R_mono (Kd.R_far (p := ⟨gb619, 2, none⟩) (Kd.R_types HO640.out BK619.out (by decide)) (fun _ hk => hk.2) (.slice Ao139 y638.length co139)) (fun _ hk => trivial)⟩, ⟨by exact zf BK613 NB613_619⟩, ⟨by exact zf BK614 NB614_619⟩, ⟨by exact zf BK615 NB615_619⟩, ⟨by exact zf BK616 NB616_619⟩, ⟨by exact zp BK619 rfl⟩, ⟨by exact zbo HB GE619⟩⟩)
           ·rw [if_neg c117] at H
            exact absurd H (by simp)
         ·rw [if_neg c38] at H
          have c38b0 : decide (0 ≤ (wrap64 (x14_2 - ji9))) = false := decide_eq_false c38
          clear c38
          by_cases c141 : x620002_2.length < 4398046511104
          ·rw [if_pos c141] at H
           have LMc141 := Aside0.mk c141
           clear c141
           obtain ⟨y641, hy641⟩ : ∃ y_ : List (S26), y_ = (x620002_2 ++ [(⟨t620, t621, t622, t623⟩ : S26)]) := ⟨_, rfl⟩
           replace H : (imageeditorref11_Put.l1 k2 ji9 ji11 x13_1 (wrap64 (x14_2 + 1)) a0_0 a0_1 l0_2 a1_0 a1_1 l1_2 a0_0 a0_1 y641) = some (r1, r2, r3, r4) := by first | (rw [hy641]; with_reducible exact H) | (have H2_ := (Option.bind_some _ _).symm.trans H; rw [hy641]; with_reducible exact H2_) | (have H2_ := (Option.bind_some _ _).symm.trans H; with_reducible exact H2_) | with_reducible exact H | (rw [hy641]; exact H) | exact H
           have Ny641 := Aside0.mk hy641
           clear hy641
           have H' := Aside0.mk H
           clear H
           have hnb142 := NB613_614.out
           have hnc142 := NB614_613.out
           have hnb143 := NB613_615.out
           have hnc143 := NB615_613.out
           have hnb144 := NB613_616.out
           have hnc144 := NB616_613.out
           have hnb145 := NB613_619.out
           have hnc145 := NB619_613.out
           obtain ⟨hcz146_0, hcz146_1, hcz146_2, hfz146_0, hfz146_1, hfz146_2⟩ := zq3 BK613
           go_wp2_with (first | ((with_reducible refine gate_callee (f := 44) rfl ?_); refine goesL_ (some 56) rfl rfl Try.func44 (by kernel_rfl) rfl #[.agg #[.int .i64 a0_0, .int .i64 a0_1, .slice A0_2 l0_2.length c0_2], .int .i64 x14_2, .int .i64 x13_1] rfl (by (try simp only [List.map_toArray, List.map_cons, List.map_nil]); first | done | rfl | (simp only [List.length_drop, List.length_take]; rfl)) ?_; (with_reducible refine (imageeditorref11_Pick.calls a0_0 a0_1 _ _ l0_2 x14_2 x13_1 t620 t621 t622 t623 _ ?side1 ?side2 A37.out).mono ?_); (case side1 => repeat (first | exact (Kd.C_below HR0_2.out HB.out) | (with_reducible refine Kd.C_alloc ?_ _) | (with_reducible refine Kd.C_drewN ?_ _) | (with_reducible refine Kd.C_drew ?_))); (case side2 => exact HC0_2.out); rintro e w147 ⟨rfl, hb⟩; refine ⟨_, rfl, ?_⟩; replace HO_620002 := zr HO_620002 hb; replace BK613 := zk BK613 hb; replace BK614 := zk BK614 hb; replace BK615 := zk BK615 hb; replace BK616 := zk BK616 hb; replace BK619 := zk BK619 hb; replace HB := zb HB hb; (try clear hb); (try clear hb2); (try clear hk); (try clear hi)) | ((with_reducible refine gate_dst (N := 15) rfl ?_); refine box_event ?hg (N := 15) ?hd (cs := #[.int .i64 0, .int .i64 0, .int .i64 0, .int .i64 0]) (t := 26) ?hr ?_; (case hd => rfl); (case hg => rfl); (case hr => first | (go_simp; done) | (go_simp; rfl)); intro gb624 hg w148 hbox hb; have GW624 := zg HB hg; have GE624 := zg HB hg; have NB613_624 := zn BK613 hg; have NB624_613 := zn' BK613 hg; have NB614_624 := zn BK614 hg; have NB624_614 := zn' BK614 hg; have NB615_624 := zn BK615 hg; have NB624_615 := zn' BK615 hg; have NB616_624 := zn BK616 hg; have NB624_616 := zn' BK616 hg; have NB619_624 := zn BK619 hg; have NB624_619 := zn' BK619 hg; have n0_ := Aside0.mk (Kd.R_below (Kd.R_elderB (by exact zr0 HO_620002) gb624 (Nat.le_of_eq hg.symm)) hb); have n1_ := Aside0.mk (hbox); replace BK613 := zk BK613 hb; replace BK614 := zk BK614 hb; replace BK615 := zk BK615 hb; replace BK616 := zk BK616 hb; replace BK619 := zk BK619 hb; replace HB := zb HB hb; clear HO_620002; have HO_620002 := n0_; have BK624 := n1_; clear n0_ n1_; clear hb hbox hg; have hnb149 := NB624_613.out; have hnc149 := NB613_624.out; have hnb150 := NB624_614.out; have hnc150 := NB614_624.out; have hnb151 := NB624_615.out; have hnc151 := NB615_624.out; have hnb152 := NB624_616.out; have hnc152 := NB616_624.out; have hnb153 := NB624_619.out; have hnc153 := NB619_624.out; obtain ⟨hcz154_0, hcz154_1, hcz154_2, hcz154_3, hfz154_0, hfz154_1, hfz154_2, hfz154_3⟩ := zq4 BK624; have hnb155 := NB619_614.out; have hnc155 := NB614_619.out; have hnb156 := NB619_615.out; have hnc156 := NB615_619.out; have hnb157 := NB619_616.out; have hnc157 := NB616_619.out; obtain ⟨hcz158_0, hcz158_1, hcz158_2, hfz158_0, hfz158_1, hfz158_2⟩ := zq3 BK619) | ((with_reducible refine gate_builtin (b := .append) (xs := #[.tmp 92, .tmp 94]) rfl ?_); at_builtin; refine Kd.R_append k26 (w0 := w) w.heap.size rfl (.tmp 92) (.tmp 94) 22 26 (.agg #[(.int .i64 0), (.int .i64 0), (.int .i64 0), (.int .i64 0)]) 32 rfl Try.underlying22 info26 rfl (by decide) (by omega) u620002 x620002_2 (⟨t620, t621, t622, t623⟩ : S26) [.int .i64 t620, .int .i64 t621, .int .i64 t622, .int .i64 t623] (fun k_ => k_ ≠ gb624) (fun _ => False) rfl (by first | (go_simp; done) | (go_simp; rfl)) ?aP (fun _ hk => hk.elim) ?aF ?aO ?aB ?aS ?aL ?_; (case aP => exact k26_mkM _ _ _ (⟨t620, t621, t622, t623⟩ : S26)); (case aB => exact (by exact zbo HB GE624)); (case aF => exact (fun k_ hk => Kd.freshB (g := gb624) (o := .cells #[.int .i64 t620, .int .i64 t621, .int .i64 t622, .int .i64 t623] 26 (0, 0)) (by exact zp BK624 rfl) k_ hk)); (case aO => exact (by (with_reducible repeat (first | apply Kd.R_alloc | apply Kd.R_drewN | apply Kd.R_drew)); exact Kd.R_mono (Kd.R_far (p := ⟨gb624, 3, none⟩) (Kd.R_far (p := ⟨gb624, 2, none⟩) (Kd.R_far (p := ⟨gb624, 1, none⟩) (Kd.R_far (p := ⟨gb624, 0, none⟩) (Kd.R_mono HO_620002.out (fun k_ hk => (⟨hk, hk.2⟩ : _ ∧ k_ ≠ gb624))) (fun _ hk => hk.2) (.int .i64 t620)) (fun _ hk => hk.2) (.int .i64 t621)) (fun _ hk => hk.2) (.int .i64 t622)) (fun _ hk => hk.2) (.int .i64 t623)) (fun _ hk => hk.1.2))); (case aS => exact (below_size (by exact zbo HB GE624))); (case aL => have := LMc141.out; omega); intro v642 w159 ho hb hg hat; rw [← Ny641.out] at ho; have n0_ := Aside0.mk (blk_grown (zf BK613 NB613_624) hg (Kd.R_ne HO_620002.out BK613.out (by decide))); have n1_ := Aside0.mk (blk_grown (zf BK614 NB614_624) hg (Kd.R_ne HO_620002.out BK614.out (by decide))); have n2_ := Aside0.mk (blk_grown (zf BK615 NB615_624) hg (Kd.R_ne HO_620002.out BK615.out (by decide))); have n3_ := Aside0.mk (blk_grown (zf BK616 NB616_624) hg (Kd.R_ne HO_620002.out BK616.out (by decide))); have n4_ := Aside0.mk (blk_grown (zf BK619 NB619_624) hg (Kd.R_ne HO_620002.out BK619.out (by decide))); have n5_ := Aside0.mk (blk_grown (g := gb624) (o := .cells #[.int .i64 t620, .int .i64 t621, .int .i64 t622, .int .i64 t623] 26 (0, 0)) (by exact zp BK624 rfl) hg (Kd.R_away HO_620002.out (fun _ hk => hk.2))); have n6_ := Aside0.mk (hb); have n7_ := Aside0.mk (ho); clear BK613; clear BK614; clear BK615; clear BK616; clear BK619; clear BK624; clear HB; clear HO_620002; have BK613 := n0_; have BK614 := n1_; have BK615 := n2_; have BK616 := n3_; have BK619 := n4_; have BK624 := n5_; have HB := n6_; have HO643 := n7_; clear n0_ n1_ n2_ n3_ n4_ n5_ n6_ n7_; clear ho hb hg hat; obtain ⟨Ao160, co160, eo160⟩ := Kd.R_slice HO643.out; subst eo160; obtain ⟨hcz161_0, hcz161_1, hcz161_2, hfz161_0, hfz161_1, hfz161_2⟩ := zq3 BK619))
           first | go_roundg k2 | ((try subst hji11); (try subst hji10); (try subst hji9); (try subst hji8); go_roundg k2)
           case measure => have := HK1.out; have := HK2.out; omega
           case rel => first | (exact ⟨(wrap64 (x14_2 + 1)), (y641), (.slice Ao160 y641.length co160), (by first | rfl | (simp; done) | (simp [*]; done)), H', ⟨by have := HK1.out; have := HK2.out; omega⟩, ⟨by (with_reducible repeat (first | apply Kd.R_alloc | apply Kd.R_drewN | apply Kd.R_drew)); exact Kd.R_mono (Kd.R_far (p := ⟨gb619, 2, none⟩) (Kd.R_types HO643.out BK619.out (by decide)) (fun _ hk => hk.2) (.slice Ao160 y641.length co160)) (fun _ hk => trivial)⟩, ⟨by exact zf BK613 NB613_619⟩, ⟨by exact zf BK614 NB614_619⟩, ⟨by exact zf BK615 NB615_619⟩, ⟨by exact zf BK616 NB616_619⟩, ⟨by exact zp BK619 rfl⟩, ⟨by exact zbo HB GE619⟩⟩) | (exact ⟨(wrap64 (x14_2 + 1)), (y641), (.slice Ao160 y641.length co160), (by first | rfl | (simp; done) | (simp [*]; done)), H', ⟨by have := HK1.out; have := HK2.out; omega⟩, ⟨by (with_reducible repeat (first | apply Kd.R_alloc | apply Kd.R_drewN | apply Kd.R_drew)); exact Kd.R_mono (Kd.R_far (p := ⟨gb619, 2, none⟩) (Kd.R_types HO643.out BK619.out (by decide)) (fun _ hk => hk.2) (.slice Ao160 y641.length co160)) (fun _ hk => trivial)⟩, ⟨by exact zf BK613 NB613_619⟩, ⟨by exact zf BK614 NB614_619⟩, ⟨by exact zf BK615 NB615_619⟩, ⟨by exact zf BK616 NB616_619⟩, ⟨by exact zp BK619 rfl⟩, ⟨by exact zbo HB GE619⟩⟩)
          ·rw [if_neg c141] at H
           exact absurd H (by simp)
        ·rw [if_neg c36] at H
         have c36b0 : decide (x14_2 < a0_0) = false := decide_eq_false c36
         clear c36
         have H' := Aside0.mk H
         clear H
         obtain ⟨hcz162_0, hcz162_1, hcz162_2, hfz162_0, hfz162_1, hfz162_2⟩ := zq3 BK613
         go_wp2
         first | go_roundg k2 | ((try subst hji11); (try subst hji10); (try subst hji9); (try subst hji8); go_roundg k2)
         case measure => have := HK1.out; have := HK2.out; omega
         case rel => first | (exact ⟨(wrap64 (x13_1 + 1)), (x620002_2), (u620002), (by first | rfl | (simp; done) | (simp [*]; done)), H', ⟨by have := HK1.out; have := HK2.out; omega⟩, ⟨by exact zr0 HO_620002⟩, ⟨by exact zk0 BK613⟩, ⟨by exact zk0 BK614⟩, ⟨by exact zk0 BK615⟩, ⟨by exact zk0 BK616⟩, ⟨by exact zk0 BK619⟩, ⟨by exact zb0 HB⟩⟩) | (exact ⟨(wrap64 (x13_1 + 1)), (x620002_2), (u620002), (by first | rfl | (simp; done) | (simp [*]; done)), H', ⟨by have := HK1.out; have := HK2.out; omega⟩, ⟨by exact zr0 HO_620002⟩, ⟨by exact zk0 BK613⟩, ⟨by exact zk0 BK614⟩, ⟨by exact zk0 BK615⟩, ⟨by exact zk0 BK616⟩, ⟨by exact zk0 BK619⟩, ⟨by exact zb0 HB⟩⟩)
     ·rw [if_neg c34] at H
      have c34b0 : decide (x13_1 < a0_1) = false := decide_eq_false c34
      clear c34
      simp only [Option.some.injEq, Prod.mk.injEq] at H
      obtain ⟨rfl, rfl, rfl, rfl⟩ := H
      have hnb163 := NB613_614.out
      have hnc163 := NB614_613.out
      have hnb164 := NB613_615.out
      have hnc164 := NB615_613.out
      have hnb165 := NB613_616.out
      have hnc165 := NB616_613.out
      have hnb166 := NB613_619.out
      have hnc166 := NB619_613.out
      obtain ⟨hcz167_0, hcz167_1, hcz167_2, hfz167_0, hfz167_1, hfz167_2⟩ := zq3 BK613
      have hnb168 := NB619_614.out
      have hnc168 := NB614_619.out
      have hnb169 := NB619_615.out
      have hnc169 := NB615_619.out
      have hnb170 := NB619_616.out
      have hnc170 := NB616_619.out
      obtain ⟨hcz171_0, hcz171_1, hcz171_2, hfz171_0, hfz171_1, hfz171_2⟩ := zq3 BK619
      have hnb172 := NB616_614.out
      have hnc172 := NB614_616.out
      have hnb173 := NB616_615.out
      have hnc173 := NB615_616.out
      obtain ⟨hcz174_0, hcz174_1, hcz174_2, hfz174_0, hfz174_1, hfz174_2⟩ := zq3 BK616
      obtain ⟨Ao175, co175, eo175⟩ := Kd.R_slice HO_620002.out
      subst eo175
      go_wp2
      refine bodyPost_ret (results_ct rfl _ _ gb616 24 #[.int .i64 a0_0, .int .i64 a0_1, .slice Ao175 x620002_1.length co175] (0, 0) _ rfl (by exact zp BK616 rfl) Try.underlying24 rfl (by kernel_rfl)) rfl ?_
      exact ⟨_, by first | rfl | (simp [errW_none, errW_some] <;> rfl) | (simp only [← hji8, ← hji9, ← hji10, ← hji11]; first | rfl | (simp [errW_none, errW_some] <;> rfl)) | (simp [*, errW_none, errW_some] <;> rfl), by exact zro HO_620002 BK616 (by decide), by exact zbo HB GE616⟩
  ·rw [if_neg c7] at H
   have c7b0 : (t618 == 0) = false := beq_eq_false_iff_ne.mpr c7
   have c7b1 : (t618 != 0) = true := bne_iff_ne.mpr c7
   simp only [Option.some.injEq, Prod.mk.injEq] at H
   obtain ⟨rfl, rfl, rfl, rfl⟩ := H
   go_enter Try.func30, Try.ntmps30
   go_wp2_with (first | ((with_reducible refine gate_dst (N := 3) rfl ?_); refine box_event ?hg (N := 3) ?hd (cs := #[.int .i64 a0_0, .int .i64 a0_1, .slice A0_2 l0_2.length c0_2]) (t := 24) ?hr ?_; (case hd => rfl); (case hg => rfl); (case hr => first | (go_simp; done) | (go_simp; rfl)); intro gb613 hg w176 hbox hb; have GW613 := zg HB hg; have GE613 := zg HB hg; have n0_ := Aside0.mk (hbox); replace HB := zb HB hb; have BK613 := n0_; clear n0_; clear hb hbox hg) | ((with_reducible refine gate_dst (N := 4) rfl ?_); refine box_event ?hg (N := 4) ?hd (cs := #[.int .i64 a1_0, .int .i64 a1_1, .slice A1_2 l1_2.length c1_2]) (t := 24) ?hr ?_; (case hd => rfl); (case hg => rfl); (case hr => first | (go_simp; done) | (go_simp; rfl)); intro gb614 hg w177 hbox hb; have GW614 := zg HB hg; have GE614 := zg HB hg; have NB613_614 := zn BK613 hg; have NB614_613 := zn' BK613 hg; have n0_ := Aside0.mk (hbox); replace BK613 := zk BK613 hb; replace HB := zb HB hb; have BK614 := n0_; clear n0_; clear hb hbox hg) | ((with_reducible refine gate_dst (N := 5) rfl ?_); refine box_event ?hg (N := 5) ?hd (cs := #[.int .i64 a2_0, .int .i64 a2_1]) (t := 41) ?hr ?_; (case hd => rfl); (case hg => rfl); (case hr => first | (go_simp; done) | (go_simp; rfl)); intro gb615 hg w178 hbox hb; have GW615 := zg HB hg; have GE615 := zg HB hg; have NB613_615 := zn BK613 hg; have NB615_613 := zn' BK613 hg; have NB614_615 := zn BK614 hg; have NB615_614 := zn' BK614 hg; have n0_ := Aside0.mk (hbox); replace BK613 := zk BK613 hb; replace BK614 := zk BK614 hb; replace HB := zb HB hb; have BK615 := n0_; clear n0_; clear hb hbox hg) | ((with_reducible refine gate_dst (N := 6) rfl ?_); refine box_event ?hg (N := 6) ?hd (cs := #[.int .i64 0, .int .i64 0, .slice none 0 0]) (t := 24) ?hr ?_; (case hd => rfl); (case hg => rfl); (case hr => first | (go_simp; done) | (go_simp; rfl)); intro gb616 hg w179 hbox hb; have GW616 := zg HB hg; have GE616 := zg HB hg; have NB613_616 := zn BK613 hg; have NB616_613 := zn' BK613 hg; have NB614_616 := zn BK614 hg; have NB616_614 := zn' BK614 hg; have NB615_616 := zn BK615 hg; have NB616_615 := zn' BK615 hg; have n0_ := Aside0.mk (hbox); replace BK613 := zk BK613 hb; replace BK614 := zk BK614 hb; replace BK615 := zk BK615 hb; replace HB := zb HB hb; have BK616 := n0_; clear n0_; clear hb hbox hg; have hnb180 := NB613_614.out; have hnc180 := NB614_613.out; have hnb181 := NB613_615.out; have hnc181 := NB615_613.out; have hnb182 := NB613_616.out; have hnc182 := NB616_613.out; obtain ⟨hcz183_0, hcz183_1, hcz183_2, hfz183_0, hfz183_1, hfz183_2⟩ := zq3 BK613) | ((with_reducible refine gate_callee (f := 19) rfl ?_); refine goesL_ (some 17) rfl rfl Try.func19 (by kernel_rfl) rfl #[.agg #[.int .i64 a0_0, .int .i64 a0_1, .slice A0_2 l0_2.length c0_2]] rfl (by (try simp only [List.map_toArray, List.map_cons, List.map_nil]); first | done | rfl | (simp only [List.length_drop, List.length_take]; rfl)) ?_; (with_reducible refine (imageeditorref11_Check.calls k a0_0 a0_1 _ _ l0_2 t617 _ ?side1 ?side2 A4.out).mono ?_); (case side1 => repeat (first | exact (Kd.C_below HR0_2.out HB.out) | (with_reducible refine Kd.C_alloc ?_ _) | (with_reducible refine Kd.C_drewN ?_ _) | (with_reducible refine Kd.C_drew ?_))); (case side2 => exact HC0_2.out); rintro e w184 ⟨rfl, hb⟩; refine ⟨_, rfl, ?_⟩; replace BK613 := zk BK613 hb; replace BK614 := zk BK614 hb; replace BK615 := zk BK615 hb; replace BK616 := zk BK616 hb; replace HB := zb HB hb; (try clear hb); (try clear hb2); (try clear hk); (try clear hi); have hnb185 := NB614_615.out; have hnc185 := NB615_614.out; have hnb186 := NB614_616.out; have hnc186 := NB616_614.out; obtain ⟨hcz187_0, hcz187_1, hcz187_2, hfz187_0, hfz187_1, hfz187_2⟩ := zq3 BK614) | ((with_reducible refine gate_callee (f := 19) rfl ?_); refine goesL_ (some 23) rfl rfl Try.func19 (by kernel_rfl) rfl #[.agg #[.int .i64 a1_0, .int .i64 a1_1, .slice A1_2 l1_2.length c1_2]] rfl (by (try simp only [List.map_toArray, List.map_cons, List.map_nil]); first | done | rfl | (simp only [List.length_drop, List.length_take]; rfl)) ?_; (with_reducible refine (imageeditorref11_Check.calls k a1_0 a1_1 _ _ l1_2 t618 _ ?side1 ?side2 A6.out).mono ?_); (case side1 => repeat (first | exact (Kd.C_below HR1_2.out HB.out) | (with_reducible refine Kd.C_alloc ?_ _) | (with_reducible refine Kd.C_drewN ?_ _) | (with_reducible refine Kd.C_drew ?_))); (case side2 => exact HC1_2.out); rintro e w188 ⟨rfl, hb⟩; refine ⟨_, rfl, ?_⟩; replace BK613 := zk BK613 hb; replace BK614 := zk BK614 hb; replace BK615 := zk BK615 hb; replace BK616 := zk BK616 hb; replace HB := zb HB hb; (try clear hb); (try clear hb2); (try clear hk); (try clear hi); have hnb189 := NB616_615.out; have hnc189 := NB615_616.out; obtain ⟨hcz190_0, hcz190_1, hcz190_2, hfz190_0, hfz190_1, hfz190_2⟩ := zq3 BK616))
   refine bodyPost_ret (results_ct rfl _ _ gb616 24 #[.int .i64 0, .int .i64 0, .slice none 0 0] (0, 0) _ rfl (by exact zp BK616 rfl) Try.underlying24 rfl (by kernel_rfl)) rfl ?_
   exact ⟨_, by first | rfl | (simp [errW_none, errW_some] <;> rfl) | (simp [*, errW_none, errW_some] <;> rfl), by first | exact Kd.R_nil _ _ _ _ _ | exact Kd.N_nil _ _ _ _ _ | exact Kd.V_nil _ _ _ _ _ | exact Kd.Q_nil _ _ _ _ _ | exact Kd.S_nil _ _ _ _ _, by exact zbo HB GE616⟩
 ·rw [if_neg c5] at H
  have c5b0 : (t617 == 0) = false := beq_eq_false_iff_ne.mpr c5
  have c5b1 : (t617 != 0) = true := bne_iff_ne.mpr c5
  simp only [Option.some.injEq, Prod.mk.injEq] at H
  obtain ⟨rfl, rfl, rfl, rfl⟩ := H
  go_enter Try.func30, Try.ntmps30
  go_wp2_with (first | ((with_reducible refine gate_dst (N := 3) rfl ?_); refine box_event ?hg (N := 3) ?hd (cs := #[.int .i64 a0_0, .int .i64 a0_1, .slice A0_2 l0_2.length c0_2]) (t := 24) ?hr ?_; (case hd => rfl); (case hg => rfl); (case hr => first | (go_simp; done) | (go_simp; rfl)); intro gb613 hg w191 hbox hb; have GW613 := zg HB hg; have GE613 := zg HB hg; have n0_ := Aside0.mk (hbox); replace HB := zb HB hb; have BK613 := n0_; clear n0_; clear hb hbox hg) | ((with_reducible refine gate_dst (N := 4) rfl ?_); refine box_event ?hg (N := 4) ?hd (cs := #[.int .i64 a1_0, .int .i64 a1_1, .slice A1_2 l1_2.length c1_2]) (t := 24) ?hr ?_; (case hd => rfl); (case hg => rfl); (case hr => first | (go_simp; done) | (go_simp; rfl)); intro gb614 hg w192 hbox hb; have GW614 := zg HB hg; have GE614 := zg HB hg; have NB613_614 := zn BK613 hg; have NB614_613 := zn' BK613 hg; have n0_ := Aside0.mk (hbox); replace BK613 := zk BK613 hb; replace HB := zb HB hb; have BK614 := n0_; clear n0_; clear hb hbox hg) | ((with_reducible refine gate_dst (N := 5) rfl ?_); refine box_event ?hg (N := 5) ?hd (cs := #[.int .i64 a2_0, .int .i64 a2_1]) (t := 41) ?hr ?_; (case hd => rfl); (case hg => rfl); (case hr => first | (go_simp; done) | (go_simp; rfl)); intro gb615 hg w193 hbox hb; have GW615 := zg HB hg; have GE615 := zg HB hg; have NB613_615 := zn BK613 hg; have NB615_613 := zn' BK613 hg; have NB614_615 := zn BK614 hg; have NB615_614 := zn' BK614 hg; have n0_ := Aside0.mk (hbox); replace BK613 := zk BK613 hb; replace BK614 := zk BK614 hb; replace HB := zb HB hb; have BK615 := n0_; clear n0_; clear hb hbox hg) | ((with_reducible refine gate_dst (N := 6) rfl ?_); refine box_event ?hg (N := 6) ?hd (cs := #[.int .i64 0, .int .i64 0, .slice none 0 0]) (t := 24) ?hr ?_; (case hd => rfl); (case hg => rfl); (case hr => first | (go_simp; done) | (go_simp; rfl)); intro gb616 hg w194 hbox hb; have GW616 := zg HB hg; have GE616 := zg HB hg; have NB613_616 := zn BK613 hg; have NB616_613 := zn' BK613 hg; have NB614_616 := zn BK614 hg; have NB616_614 := zn' BK614 hg; have NB615_616 := zn BK615 hg; have NB616_615 := zn' BK615 hg; have n0_ := Aside0.mk (hbox); replace BK613 := zk BK613 hb; replace BK614 := zk BK614 hb; replace BK615 := zk BK615 hb; replace HB := zb HB hb; have BK616 := n0_; clear n0_; clear hb hbox hg; have hnb195 := NB613_614.out; have hnc195 := NB614_613.out; have hnb196 := NB613_615.out; have hnc196 := NB615_613.out; have hnb197 := NB613_616.out; have hnc197 := NB616_613.out; obtain ⟨hcz198_0, hcz198_1, hcz198_2, hfz198_0, hfz198_1, hfz198_2⟩ := zq3 BK613) | ((with_reducible refine gate_callee (f := 19) rfl ?_); refine goesL_ (some 17) rfl rfl Try.func19 (by kernel_rfl) rfl #[.agg #[.int .i64 a0_0, .int .i64 a0_1, .slice A0_2 l0_2.length c0_2]] rfl (by (try simp only [List.map_toArray, List.map_cons, List.map_nil]); first | done | rfl | (simp only [List.length_drop, List.length_take]; rfl)) ?_; (with_reducible refine (imageeditorref11_Check.calls k a0_0 a0_1 _ _ l0_2 t617 _ ?side1 ?side2 A4.out).mono ?_); (case side1 => repeat (first | exact (Kd.C_below HR0_2.out HB.out) | (with_reducible refine Kd.C_alloc ?_ _) | (with_reducible refine Kd.C_drewN ?_ _) | (with_reducible refine Kd.C_drew ?_))); (case side2 => exact HC0_2.out); rintro e w199 ⟨rfl, hb⟩; refine ⟨_, rfl, ?_⟩; replace BK613 := zk BK613 hb; replace BK614 := zk BK614 hb; replace BK615 := zk BK615 hb; replace BK616 := zk BK616 hb; replace HB := zb HB hb; (try clear hb); (try clear hb2); (try clear hk); (try clear hi); have hnb200 := NB616_614.out; have hnc200 := NB614_616.out; have hnb201 := NB616_615.out; have hnc201 := NB615_616.out; obtain ⟨hcz202_0, hcz202_1, hcz202_2, hfz202_0, hfz202_1, hfz202_2⟩ := zq3 BK616))
  refine bodyPost_ret (results_ct rfl _ _ gb616 24 #[.int .i64 0, .int .i64 0, .slice none 0 0] (0, 0) _ rfl (by exact zp BK616 rfl) Try.underlying24 rfl (by kernel_rfl)) rfl ?_
  exact ⟨_, by first | rfl | (simp [errW_none, errW_some] <;> rfl) | (simp [*, errW_none, errW_some] <;> rfl), by first | exact Kd.R_nil _ _ _ _ _ | exact Kd.N_nil _ _ _ _ _ | exact Kd.V_nil _ _ _ _ _ | exact Kd.Q_nil _ _ _ _ _ | exact Kd.S_nil _ _ _ _ _, by exact zbo HB GE616⟩

/-! ### imageeditorlaw11_RasterPuts: function 7 -/
def imageeditorlaw11_RasterPuts.f (k : Nat) (a0_0 : Int) (a0_1 : Int) (l0_2 : List (S26)) (a1_0 : Int) (a1_1 : Int) (l1_2 : List (S26)) (a2_0 : Int) (a2_1 : Int) : Option (Bool) := (raster_Put.f k a0_0 a0_1 l0_2 a1_0 a1_1 l1_2 a2_0 a2_1).bind fun bt647 => ((imageeditorref11_Put.f k a0_0 a0_1 l0_2 a1_0 a1_1 l1_2 a2_0 a2_1).bind fun bt654 => ((imageeditorlaw11_awake.f k).bind fun t661 => (if t661 = true then (if bt647.2.2.2 = bt654.2.2.2 then ((imageeditorlaw11_same.f k bt647.1 bt647.2.1 bt647.2.2.1 bt654.1 bt654.2.1 bt654.2.2.1).bind fun t662 => (some t662)) else (some false)) else (some false))))
theorem imageeditorlaw11_RasterPuts.mono : ∀ a0 a1 a2 a3 a4 a5 a6 a7 k, LeO (imageeditorlaw11_RasterPuts.f k a0 a1 a2 a3 a4 a5 a6 a7) (imageeditorlaw11_RasterPuts.f (k + 1) a0 a1 a2 a3 a4 a5 a6 a7) := by
 intro a0 a1 a2 a3 a4 a5 a6 a7 k
 unfold imageeditorlaw11_RasterPuts.f
 repeat' first
   | (with_reducible exact imageeditorlaw11_awake.mono _)
   | (with_reducible exact imageeditorlaw11_same.mono _ _ _ _ _ _ _)
   | (with_reducible exact imageeditorref11_Put.mono _ _ _ _ _ _ _ _ _)
   | (with_reducible exact raster_Put.mono _ _ _ _ _ _ _ _ _)
   | (with_reducible exact LeO.refl _)
   | (with_reducible exact LeO.none _)
   | (with_reducible refine LeO.ite ?_ ?_)
   | (with_reducible refine LeO.bind ?_ (fun _ => ?_))
   | exact imageeditorlaw11_awake.mono _
   | exact imageeditorlaw11_same.mono _ _ _ _ _ _ _
   | exact imageeditorref11_Put.mono _ _ _ _ _ _ _ _ _
   | exact raster_Put.mono _ _ _ _ _ _ _ _ _
   | exact LeO.none _
   | refine LeO.ite ?_ ?_
   | refine LeO.bind ?_ (fun _ => ?_)
set_option maxHeartbeats 8000000 in
set_option maxRecDepth 100000 in
theorem imageeditorlaw11_RasterPuts.callsT (k : Nat) (a0_0 : Int) (a0_1 : Int) (A0_2 : Option Addr) (c0_2 : Nat) (l0_2 : List (S26)) (a1_0 : Int) (a1_1 : Int) (A1_2 : Option Addr) (c1_2 : Nat) (l1_2 : List (S26)) (a2_0 : Int) (a2_1 : Int) (r : Bool) (w : World) (hr0_2 : Kd.C k26 w A0_2 l0_2.length l0_2) (hc0_2 : l0_2.length ≤ c0_2) (hr1_2 : Kd.C k26 w A1_2 l1_2.length l1_2) (hc1_2 : l1_2.length ≤ c1_2) (hT : r = true) (h : imageeditorlaw11_RasterPuts.f k a0_0 a0_1 l0_2 a1_0 a1_1 l1_2 a2_0 a2_1 = some r) :
  Calls Try.prog 7 #[.agg #[.int .i64 a0_0, .int .i64 a0_1, .slice A0_2 l0_2.length c0_2], .agg #[.int .i64 a1_0, .int .i64 a1_1, .slice A1_2 l1_2.length c1_2], .agg #[.int .i64 a2_0, .int .i64 a2_1]] w fun e w' => e = .returned (.bool r) ∧ Below w.heap.size w w' := by
 have hu24 := Try.underlying24
 have hu41 := Try.underlying41
 have HT := Aside0.mk hT
 clear hT
 have HR0_2 := Aside0.mk hr0_2
 have HC0_2 := Aside0.mk hc0_2
 clear hr0_2 hc0_2
 have HR1_2 := Aside0.mk hr1_2
 have HC1_2 := Aside0.mk hc1_2
 clear hr1_2 hc1_2
 have HB := Aside0.mk (Below.refl w.heap.size w)
 have H : ((raster_Put.f k a0_0 a0_1 l0_2 a1_0 a1_1 l1_2 a2_0 a2_1).bind fun bt647 => ((imageeditorref11_Put.f k a0_0 a0_1 l0_2 a1_0 a1_1 l1_2 a2_0 a2_1).bind fun bt654 => ((imageeditorlaw11_awake.f k).bind fun t661 => (if t661 = true then (if bt647.2.2.2 = bt654.2.2.2 then ((imageeditorlaw11_same.f k bt647.1 bt647.2.1 bt647.2.2.1 bt654.1 bt654.2.1 bt654.2.2.1).bind fun t662 => (some t662)) else (some false)) else (some false))))) = some r := h
 clear h
 replace H := Option.bind_eq_some_iff.mp H
 obtain ⟨⟨t647, t648, t649, t652⟩, A40, H⟩ := H
 replace H : ((imageeditorref11_Put.f k a0_0 a0_1 l0_2 a1_0 a1_1 l1_2 a2_0 a2_1).bind fun bt654 => ((imageeditorlaw11_awake.f k).bind fun t661 => (if t661 = true then (if t652 = bt654.2.2.2 then ((imageeditorlaw11_same.f k t647 t648 t649 bt654.1 bt654.2.1 bt654.2.2.1).bind fun t662 => (some t662)) else (some false)) else (some false)))) = some r := H
 have A4 := Aside0.mk A40
 clear A40
 replace H := Option.bind_eq_some_iff.mp H
 obtain ⟨⟨t654, t655, t656, t659⟩, A50, H⟩ := H
 replace H : ((imageeditorlaw11_awake.f k).bind fun t661 => (if t661 = true then (if t652 = t659 then ((imageeditorlaw11_same.f k t647 t648 t649 t654 t655 t656).bind fun t662 => (some t662)) else (some false)) else (some false))) = some r := H
 have A5 := Aside0.mk A50
 clear A50
 replace H := Option.bind_eq_some_iff.mp H
 obtain ⟨t661, A60, H⟩ := H
 replace H : (if t661 = true then (if t652 = t659 then ((imageeditorlaw11_same.f k t647 t648 t649 t654 t655 t656).bind fun t662 => (some t662)) else (some false)) else (some false)) = some r := H
 have A6 := Aside0.mk A60
 clear A60
 by_cases c7 : t661 = true
 ·subst c7
  have H1 : (if t652 = t659 then ((imageeditorlaw11_same.f k t647 t648 t649 t654 t655 t656).bind fun t662 => (some t662)) else (some false)) = some r := by rw [if_pos rfl] at H; exact H
  clear H
  have H := H1
  clear H1
  by_cases c8 : t652 = t659
  ·rw [if_pos c8] at H
   have c8b0 : (t652 == t659) = true := beq_iff_eq.mpr c8
   have c8b1 : (t652 != t659) = false := bne_eq_false_iff_eq.mpr c8
   clear c8
   replace H := Option.bind_eq_some_iff.mp H
   obtain ⟨t662, A90, H⟩ := H
   replace H : (some t662) = some r := H
   have A9 := Aside0.mk A90
   clear A90
   as_aux_lemma =>
    obtain rfl := Option.some.inj H
    go_enter Try.func7, Try.ntmps7
    go_wp2_with (first | ((with_reducible refine gate_dst (N := 3) rfl ?_); refine box_event ?hg (N := 3) ?hd (cs := #[.int .i64 a0_0, .int .i64 a0_1, .slice A0_2 l0_2.length c0_2]) (t := 24) ?hr ?_; (case hd => rfl); (case hg => rfl); (case hr => first | (go_simp; done) | (go_simp; rfl)); intro gb644 hg w10 hbox hb; have GW644 := zg HB hg; have GE644 := zg HB hg; have n0_ := Aside0.mk (hbox); replace HB := zb HB hb; have BK644 := n0_; clear n0_; clear hb hbox hg) | ((with_reducible refine gate_dst (N := 4) rfl ?_); refine box_event ?hg (N := 4) ?hd (cs := #[.int .i64 a1_0, .int .i64 a1_1, .slice A1_2 l1_2.length c1_2]) (t := 24) ?hr ?_; (case hd => rfl); (case hg => rfl); (case hr => first | (go_simp; done) | (go_simp; rfl)); intro gb645 hg w11 hbox hb; have GW645 := zg HB hg; have GE645 := zg HB hg; have NB644_645 := zn BK644 hg; have NB645_644 := zn' BK644 hg; have n0_ := Aside0.mk (hbox); replace BK644 := zk BK644 hb; replace HB := zb HB hb; have BK645 := n0_; clear n0_; clear hb hbox hg) | ((with_reducible refine gate_dst (N := 5) rfl ?_); refine box_event ?hg (N := 5) ?hd (cs := #[.int .i64 a2_0, .int .i64 a2_1]) (t := 41) ?hr ?_; (case hd => rfl); (case hg => rfl); (case hr => first | (go_simp; done) | (go_simp; rfl)); intro gb646 hg w12 hbox hb; have GW646 := zg HB hg; have GE646 := zg HB hg; have NB644_646 := zn BK644 hg; have NB646_644 := zn' BK644 hg; have NB645_646 := zn BK645 hg; have NB646_645 := zn' BK645 hg; have n0_ := Aside0.mk (hbox); replace BK644 := zk BK644 hb; replace BK645 := zk BK645 hb; replace HB := zb HB hb; have BK646 := n0_; clear n0_; clear hb hbox hg; have hnb13 := NB644_645.out; have hnc13 := NB645_644.out; have hnb14 := NB644_646.out; have hnc14 := NB646_644.out; obtain ⟨hcz15_0, hcz15_1, hcz15_2, hfz15_0, hfz15_1, hfz15_2⟩ := zq3 BK644; have hnb16 := NB645_646.out; have hnc16 := NB646_645.out; obtain ⟨hcz17_0, hcz17_1, hcz17_2, hfz17_0, hfz17_1, hfz17_2⟩ := zq3 BK645; obtain ⟨hcz18_0, hcz18_1, hfz18_0, hfz18_1⟩ := zq2 BK646) | ((with_reducible refine gate_callee (f := 29) rfl ?_); refine goesL_ (some 15) rfl rfl Try.func29 (by kernel_rfl) rfl #[.agg #[.int .i64 a0_0, .int .i64 a0_1, .slice A0_2 l0_2.length c0_2], .agg #[.int .i64 a1_0, .int .i64 a1_1, .slice A1_2 l1_2.length c1_2], .agg #[.int .i64 a2_0, .int .i64 a2_1]] rfl (by (try simp only [List.map_toArray, List.map_cons, List.map_nil]); first | done | rfl | (simp only [List.length_drop, List.length_take]; rfl)) ?_; (with_reducible refine (raster_Put.calls k a0_0 a0_1 _ _ l0_2 a1_0 a1_1 _ _ l1_2 a2_0 a2_1 t647 t648 t649 t652 _ ?side1 ?side2 ?side3 ?side4 A4.out).mono ?_); (case side1 => repeat (first | exact (Kd.C_below HR0_2.out HB.out) | (with_reducible refine Kd.C_alloc ?_ _) | (with_reducible refine Kd.C_drewN ?_ _) | (with_reducible refine Kd.C_drew ?_))); (case side2 => exact HC0_2.out); (case side3 => repeat (first | exact (Kd.C_below HR1_2.out HB.out) | (with_reducible refine Kd.C_alloc ?_ _) | (with_reducible refine Kd.C_drewN ?_ _) | (with_reducible refine Kd.C_drew ?_))); (case side4 => exact HC1_2.out); rintro e w19 ⟨v650, rfl, ho0, hb⟩; refine ⟨_, rfl, ?_⟩; have HO651 := zl HB ho0; replace BK644 := zk BK644 hb; replace BK645 := zk BK645 hb; replace BK646 := zk BK646 hb; replace HB := zb HB hb; (try clear hb); (try clear hb2); (try clear hk); (try clear hi); (try clear ho0)) | ((with_reducible refine gate_dst (N := 7) rfl ?_); refine box_event ?hg (N := 7) ?hd (cs := #[.int .i64 0, .int .i64 0, .slice none 0 0]) (t := 24) ?hr ?_; (case hd => rfl); (case hg => rfl); (case hr => first | (go_simp; done) | (go_simp; rfl)); intro gb653 hg w20 hbox hb; have GW653 := zg HB hg; have GE653 := zg HB hg; have NB644_653 := zn BK644 hg; have NB653_644 := zn' BK644 hg; have NB645_653 := zn BK645 hg; have NB653_645 := zn' BK645 hg; have NB646_653 := zn BK646 hg; have NB653_646 := zn' BK646 hg; have n0_ := Aside0.mk (hbox); replace HO651 := zr HO651 hb; replace BK644 := zk BK644 hb; replace BK645 := zk BK645 hb; replace BK646 := zk BK646 hb; replace HB := zb HB hb; have BK653 := n0_; clear n0_; clear hb hbox hg; have hnb21 := NB653_644.out; have hnc21 := NB644_653.out; have hnb22 := NB653_645.out; have hnc22 := NB645_653.out; have hnb23 := NB653_646.out; have hnc23 := NB646_653.out; obtain ⟨hcz24_0, hcz24_1, hcz24_2, hfz24_0, hfz24_1, hfz24_2⟩ := zq3 BK653; obtain ⟨Ao25, co25, eo25⟩ := Kd.R_slice HO651.out; subst eo25; obtain ⟨hcz26_0, hcz26_1, hcz26_2, hfz26_0, hfz26_1, hfz26_2⟩ := zq3 BK644; obtain ⟨hcz27_0, hcz27_1, hcz27_2, hfz27_0, hfz27_1, hfz27_2⟩ := zq3 BK645; obtain ⟨hcz28_0, hcz28_1, hfz28_0, hfz28_1⟩ := zq2 BK646) | ((with_reducible refine gate_callee (f := 30) rfl ?_); refine goesL_ (some 22) rfl rfl Try.func30 (by kernel_rfl) rfl #[.agg #[.int .i64 a0_0, .int .i64 a0_1, .slice A0_2 l0_2.length c0_2], .agg #[.int .i64 a1_0, .int .i64 a1_1, .slice A1_2 l1_2.length c1_2], .agg #[.int .i64 a2_0, .int .i64 a2_1]] rfl (by (try simp only [List.map_toArray, List.map_cons, List.map_nil]); first | done | rfl | (simp only [List.length_drop, List.length_take]; rfl)) ?_; (with_reducible refine (imageeditorref11_Put.calls k a0_0 a0_1 _ _ l0_2 a1_0 a1_1 _ _ l1_2 a2_0 a2_1 t654 t655 t656 t659 _ ?side1 ?side2 ?side3 ?side4 A5.out).mono ?_); (case side1 => exact Kd.C_below HR0_2.out (by exact zbo HB GE653)); (case side2 => exact HC0_2.out); (case side3 => exact Kd.C_below HR1_2.out (by exact zbo HB GE653)); (case side4 => exact HC1_2.out); rintro e w29 ⟨v657, rfl, ho0, hb⟩; refine ⟨_, rfl, ?_⟩; have n0_ := Aside0.mk (Kd.R_below (by exact zro HO651 BK653 (by decide)) hb); have n1_ := Aside0.mk (Kd.R_lower ho0 (below_size (by exact zbo HB GE653))); have n2_ := Aside0.mk (blk_below (g := gb653) (o := .cells #[.int .i64 t647, .int .i64 t648, .slice Ao25 t649.length co25] 24 (0, 0)) (by exact zp BK653 rfl) hb); have n3_ := Aside0.mk (below_step (by exact zbo HB GE653) hb); replace BK644 := zfk BK644 NB644_653 hb; replace BK645 := zfk BK645 NB645_653 hb; replace BK646 := zfk BK646 NB646_653 hb; clear HO651; clear BK653; clear HB; have HO651 := n0_; have HO658 := n1_; have BK653 := n2_; have HB := n3_; clear n0_ n1_ n2_ n3_; (try clear hb); (try clear hb2); (try clear hk); (try clear hi); (try clear ho0); (try clear BK644); (try clear BK645); (try clear BK646)) | ((with_reducible refine gate_dst (N := 9) rfl ?_); refine box_event ?hg (N := 9) ?hd (cs := #[.int .i64 0, .int .i64 0, .slice none 0 0]) (t := 24) ?hr ?_; (case hd => rfl); (case hg => rfl); (case hr => first | (go_simp; done) | (go_simp; rfl)); intro gb660 hg w30 hbox hb; have GW660 := zg HB hg; have GE660 := zg HB hg; have NB653_660 := zn BK653 hg; have NB660_653 := zn' BK653 hg; have n0_ := Aside0.mk (hbox); replace HO651 := zr HO651 hb; replace HO658 := zr HO658 hb; replace BK653 := zk BK653 hb; replace HB := zb HB hb; have BK660 := n0_; clear n0_; clear hb hbox hg; have hnb31 := NB660_653.out; have hnc31 := NB653_660.out; obtain ⟨hcz32_0, hcz32_1, hcz32_2, hfz32_0, hfz32_1, hfz32_2⟩ := zq3 BK660; obtain ⟨Ao33, co33, eo33⟩ := Kd.R_slice HO658.out; subst eo33) | ((with_reducible refine gate_callee (f := 17) rfl ?_); refine goesL_ (some 25) rfl rfl Try.func17 (by kernel_rfl) rfl #[] rfl (by (try simp only [List.map_toArray, List.map_cons, List.map_nil]); first | done | rfl | (simp only [List.length_drop, List.length_take]; rfl)) ?_; (with_reducible refine (imageeditorlaw11_awake.calls k  true _ A6.out).mono ?_); rintro e w34 ⟨rfl, hb⟩; refine ⟨_, rfl, ?_⟩; have n0_ := Aside0.mk (Kd.R_below (by exact zro HO651 BK660 (by decide)) hb); have n1_ := Aside0.mk (Kd.R_below (by exact zro HO658 BK660 (by decide)) hb); have n2_ := Aside0.mk (blk_below (g := gb660) (o := .cells #[.int .i64 t654, .int .i64 t655, .slice Ao33 t656.length co33] 24 (0, 0)) (by exact zp BK660 rfl) hb); have n3_ := Aside0.mk (below_step (by exact zbo HB GE660) hb); replace BK653 := zfk BK653 NB653_660 hb; clear HO651; clear HO658; clear BK660; clear HB; have HO651 := n0_; have HO658 := n1_; have BK660 := n2_; have HB := n3_; clear n0_ n1_ n2_ n3_; (try clear hb); (try clear hb2); (try clear hk); (try clear hi); obtain ⟨hcz35_0, hcz35_1, hcz35_2, hfz35_0, hfz35_1, hfz35_2⟩ := zq3 BK653; obtain ⟨hcz36_0, hcz36_1, hcz36_2, hfz36_0, hfz36_1, hfz36_2⟩ := zq3 BK660; (try clear BK653); (try clear BK660)) | (go_at_call 20; (with_reducible refine (imageeditorlaw11_same.calls k t647 t648 _ _ t649 t654 t655 _ _ t656 t662 _ ?side1 ?side2 ?side3 ?side4 A9.out).mono ?_); (case side1 => repeat (first | exact (Kd.R_reads' HO651.out).2.2 | (with_reducible refine Kd.C_alloc ?_ _) | (with_reducible refine Kd.C_drewN ?_ _) | (with_reducible refine Kd.C_drew ?_))); (case side2 => exact (Kd.R_reads' HO651.out).2.1); (case side3 => repeat (first | exact (Kd.R_reads' HO658.out).2.2 | (with_reducible refine Kd.C_alloc ?_ _) | (with_reducible refine Kd.C_drewN ?_ _) | (with_reducible refine Kd.C_drew ?_))); (case side4 => exact (Kd.R_reads' HO658.out).2.1); rintro e w37 ⟨rfl, hb⟩; replace HO651 := zr HO651 hb; replace HO658 := zr HO658 hb; replace HB := zb HB hb; (try clear hb); (try clear hb2); (try clear hk); (try clear hi)))
    go_ret
    exact ⟨by first | rfl | (simp [errW_none, errW_some] <;> rfl) | (simp [*, errW_none, errW_some] <;> rfl), by exact zb0 HB⟩
  ·rw [if_neg c8] at H
   have c8b0 : (t652 == t659) = false := beq_eq_false_iff_ne.mpr c8
   have c8b1 : (t652 != t659) = true := bne_iff_ne.mpr c8
   as_aux_lemma =>
    exact absurd HT.out (by rw [← Option.some.inj H]; decide)
 ·replace c7 := Bool.eq_false_iff.mpr c7
  subst c7
  have H1 : (some false) = some r := by rw [if_neg (show ¬ (false = true) by decide)] at H; exact H
  clear H
  have H := H1
  clear H1
  as_aux_lemma =>
   exact absurd HT.out (by rw [← Option.some.inj H]; decide)

end Go.Proofs.Ytjepbimgddgijaa.G
