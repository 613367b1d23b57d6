/- Contracts of functions of the program, each as it is called: what it computes (.f), that it computes no less with more rounds (.mono), and that a call returns just that (.calls). No conditions but those that each contract names. Written by a program of this session (wip/gx.py over the kit's print). -/
import Derived.Test.YtmmncannibnklaaG0
namespace Go.Proofs.Ytmmncannibnklaa.G
open Go.RowKit Go.Proofs.YtmmncannibnklaaW.PrintWords Go.Proofs.YtmmncannibnklaaW.PrintLast Go.Proofs.YtmmncannibnklaaW.PrintMore
attribute [local go_sem] max2_int min2_int max_two min_two max_three min_three max_four min_four   -- for this text's walks alone
set_option linter.unusedVariables false
set_option linter.unusedSimpArgs false


/-! ### imageeditorref24_reached: function 27 -/
mutual
def imageeditorref24_reached.l0 : Nat → Int → Int → List Bool → Bool → List Bool → List Int → Int → Option (List Bool)
 | 0, _, _, _, _, _, _, _ => none
 | k + 1, x0, x1, x3, x4, x11, x12, x13 => if x13 < (x12.length : Int) then (if 0 ≤ x13 then (if x0 = 0 then (none) else (imageeditorref24_reached.l1 k x0 x1 x3 x4 x11 x12 x13 (Int.tmod (rd x12 x13) x0) (wrap64 (Int.tdiv (rd x12 x13) x0)) (-1))) else (none)) else (some x11)
def imageeditorref24_reached.l1 : Nat → Int → Int → List Bool → Bool → List Bool → List Int → Int → Int → Int → Int → Option (List Bool)
 | 0, _, _, _, _, _, _, _, _, _, _ => none
 | k + 1, x0, x1, x3, x4, x11, x12, x13, x14, x15, x16 => if x16 ≤ 1 then (imageeditorref24_reached.l2 k x0 x1 x3 x4 x11 x12 x13 x14 x15 x16 (-1)) else (imageeditorref24_reached.l0 k x0 x1 x3 x4 x11 x12 (wrap64 (x13 + 1)))
def imageeditorref24_reached.l2 : Nat → Int → Int → List Bool → Bool → List Bool → List Int → Int → Int → Int → Int → Int → Option (List Bool)
 | 0, _, _, _, _, _, _, _, _, _, _, _ => none
 | k + 1, x0, x1, x3, x4, x11, x12, x13, x14, x15, x16, x17 => if x17 ≤ 1 then (if (wrap64 (x14 + x17)) < 0 then (imageeditorref24_reached.j3 k x0 x1 x3 x4 x11 x12 x13 x14 x15 x16 x17 (wrap64 (x14 + x17)) (wrap64 (x15 + x16)) true) else (if (wrap64 (x15 + x16)) < 0 then (imageeditorref24_reached.j3 k x0 x1 x3 x4 x11 x12 x13 x14 x15 x16 x17 (wrap64 (x14 + x17)) (wrap64 (x15 + x16)) true) else (if (wrap64 (x14 + x17)) ≥ x0 then (imageeditorref24_reached.j3 k x0 x1 x3 x4 x11 x12 x13 x14 x15 x16 x17 (wrap64 (x14 + x17)) (wrap64 (x15 + x16)) true) else (if (wrap64 (x15 + x16)) ≥ x1 then (imageeditorref24_reached.j3 k x0 x1 x3 x4 x11 x12 x13 x14 x15 x16 x17 (wrap64 (x14 + x17)) (wrap64 (x15 + x16)) true) else (if x4 = true then (imageeditorref24_reached.j3 k x0 x1 x3 x4 x11 x12 x13 x14 x15 x16 x17 (wrap64 (x14 + x17)) (wrap64 (x15 + x16)) false) else (if x17 = 0 then (imageeditorref24_reached.j3 k x0 x1 x3 x4 x11 x12 x13 x14 x15 x16 x17 (wrap64 (x14 + x17)) (wrap64 (x15 + x16)) false) else (imageeditorref24_reached.j3 k x0 x1 x3 x4 x11 x12 x13 x14 x15 x16 x17 (wrap64 (x14 + x17)) (wrap64 (x15 + x16)) (x16 != 0)))))))) else (imageeditorref24_reached.l1 k x0 x1 x3 x4 x11 x12 x13 x14 x15 (wrap64 (x16 + 1)))
def imageeditorref24_reached.j3 : Nat → Int → Int → List Bool → Bool → List Bool → List Int → Int → Int → Int → Int → Int → Int → Int → Bool → Option (List Bool)
 | 0, _, _, _, _, _, _, _, _, _, _, _, _, _, _ => none
 | k + 1, x0, x1, x3, x4, x11, x12, x13, x14, x15, x16, x17, x18, x19, x87 => if x87 = true then (imageeditorref24_reached.l2 k x0 x1 x3 x4 x11 x12 x13 x14 x15 x16 (wrap64 (x17 + 1))) else (if 0 ≤ (wrap64 ((wrap64 (x19 * x0)) + x18)) then (if (wrap64 ((wrap64 (x19 * x0)) + x18)) < (x3.length : Int) then (if rdOf false x3 (wrap64 ((wrap64 (x19 * x0)) + x18)) = true then (if (wrap64 ((wrap64 (x19 * x0)) + x18)) < (x11.length : Int) then (if (rdOf false x11 (wrap64 ((wrap64 (x19 * x0)) + x18)) = true) then (imageeditorref24_reached.l2 k x0 x1 x3 x4 x11 x12 x13 x14 x15 x16 (wrap64 (x17 + 1))) else (if x12.length < 17592186044416 then (imageeditorref24_reached.l2 k x0 x1 x3 x4 (x11.set ((wrap64 ((wrap64 (x19 * x0)) + x18)) : Int).toNat true) (x12 ++ [wrap64 ((wrap64 (x19 * x0)) + x18)]) x13 x14 x15 x16 (wrap64 (x17 + 1))) else (none))) else (none)) else (imageeditorref24_reached.l2 k x0 x1 x3 x4 x11 x12 x13 x14 x15 x16 (wrap64 (x17 + 1)))) else (none)) else (none))
end
def imageeditorref24_reached.f (k : Nat) (a0 : Int) (a1 : Int) (a2 : Int) (l3 : List Bool) (a4 : Bool) : Option (List Bool) := if 0 ≤ (l3.length : Int) then (if ((l3.length : Int) : Int).toNat ≤ 281474976710656 then ((some (List.replicate ((l3.length : Int) : Int).toNat false : List Bool)).bind fun y224 => (if 0 ≤ a2 then (if a2 < (y224.length : Int) then (imageeditorref24_reached.l0 k a0 a1 l3 a4 (y224.set (a2 : Int).toNat true) (([a2] : List Int)) 0) else (none)) else (none))) else (none)) else (none)
theorem imageeditorref24_reached.mono_l : ∀ k, (∀ y0 y1 y2 y3 y4 y5 y6, LeO (imageeditorref24_reached.l0 k y0 y1 y2 y3 y4 y5 y6) (imageeditorref24_reached.l0 (k + 1) y0 y1 y2 y3 y4 y5 y6)) ∧ (∀ y0 y1 y2 y3 y4 y5 y6 y7 y8 y9, LeO (imageeditorref24_reached.l1 k y0 y1 y2 y3 y4 y5 y6 y7 y8 y9) (imageeditorref24_reached.l1 (k + 1) y0 y1 y2 y3 y4 y5 y6 y7 y8 y9)) ∧ (∀ y0 y1 y2 y3 y4 y5 y6 y7 y8 y9 y10, LeO (imageeditorref24_reached.l2 k y0 y1 y2 y3 y4 y5 y6 y7 y8 y9 y10) (imageeditorref24_reached.l2 (k + 1) y0 y1 y2 y3 y4 y5 y6 y7 y8 y9 y10)) ∧ (∀ y0 y1 y2 y3 y4 y5 y6 y7 y8 y9 y10 y11 y12 y13, LeO (imageeditorref24_reached.j3 k y0 y1 y2 y3 y4 y5 y6 y7 y8 y9 y10 y11 y12 y13) (imageeditorref24_reached.j3 (k + 1) y0 y1 y2 y3 y4 y5 y6 y7 y8 y9 y10 y11 y12 y13))
 | 0 => ⟨fun _ _ _ _ _ _ _ r h => by simp [imageeditorref24_reached.l0] at h, fun _ _ _ _ _ _ _ _ _ _ r h => by simp [imageeditorref24_reached.l1] at h, fun _ _ _ _ _ _ _ _ _ _ _ r h => by simp [imageeditorref24_reached.l2] at h, fun _ _ _ _ _ _ _ _ _ _ _ _ _ _ r h => by simp [imageeditorref24_reached.j3] at h⟩
 | k + 1 => by
  obtain ⟨ih0, ih1, ih2, ih3⟩ := imageeditorref24_reached.mono_l k
  refine ⟨?_, ?_, ?_, ?_⟩
  ·intro y0 y1 y2 y3 y4 y5 y6
   unfold imageeditorref24_reached.l0
   repeat' first
   | (with_reducible exact ih0 _ _ _ _ _ _ _)
   | (with_reducible exact ih1 _ _ _ _ _ _ _ _ _ _)
   | (with_reducible exact ih2 _ _ _ _ _ _ _ _ _ _ _)
   | (with_reducible exact ih3 _ _ _ _ _ _ _ _ _ _ _ _ _ _)
   | (with_reducible exact LeO.refl _)
   | (with_reducible exact LeO.none _)
   | (with_reducible refine LeO.ite ?_ ?_)
   | (with_reducible refine LeO.bind ?_ (fun _ => ?_))
   | exact ih0 _ _ _ _ _ _ _
   | exact ih1 _ _ _ _ _ _ _ _ _ _
   | exact ih2 _ _ _ _ _ _ _ _ _ _ _
   | exact ih3 _ _ _ _ _ _ _ _ _ _ _ _ _ _
   | exact LeO.none _
   | refine LeO.ite ?_ ?_
   | refine LeO.bind ?_ (fun _ => ?_)
  ·intro y0 y1 y2 y3 y4 y5 y6 y7 y8 y9
   unfold imageeditorref24_reached.l1
   repeat' first
   | (with_reducible exact ih0 _ _ _ _ _ _ _)
   | (with_reducible exact ih1 _ _ _ _ _ _ _ _ _ _)
   | (with_reducible exact ih2 _ _ _ _ _ _ _ _ _ _ _)
   | (with_reducible exact ih3 _ _ _ _ _ _ _ _ _ _ _ _ _ _)
   | (with_reducible exact LeO.refl _)
   | (with_reducible exact LeO.none _)
   | (with_reducible refine LeO.ite ?_ ?_)
   | (with_reducible refine LeO.bind ?_ (fun _ => ?_))
   | exact ih0 _ _ _ _ _ _ _
   | exact ih1 _ _ _ _ _ _ _ _ _ _
   | exact ih2 _ _ _ _ _ _ _ _ _ _ _
   | exact ih3 _ _ _ _ _ _ _ _ _ _ _ _ _ _
   | exact LeO.none _
   | refine LeO.ite ?_ ?_
   | refine LeO.bind ?_ (fun _ => ?_)
  ·intro y0 y1 y2 y3 y4 y5 y6 y7 y8 y9 y10
   unfold imageeditorref24_reached.l2
   repeat' first
   | (with_reducible exact ih0 _ _ _ _ _ _ _)
   | (with_reducible exact ih1 _ _ _ _ _ _ _ _ _ _)
   | (with_reducible exact ih2 _ _ _ _ _ _ _ _ _ _ _)
   | (with_reducible exact ih3 _ _ _ _ _ _ _ _ _ _ _ _ _ _)
   | (with_reducible exact LeO.refl _)
   | (with_reducible exact LeO.none _)
   | (with_reducible refine LeO.ite ?_ ?_)
   | (with_reducible refine LeO.bind ?_ (fun _ => ?_))
   | exact ih0 _ _ _ _ _ _ _
   | exact ih1 _ _ _ _ _ _ _ _ _ _
   | exact ih2 _ _ _ _ _ _ _ _ _ _ _
   | exact ih3 _ _ _ _ _ _ _ _ _ _ _ _ _ _
   | exact LeO.none _
   | refine LeO.ite ?_ ?_
   | refine LeO.bind ?_ (fun _ => ?_)
  ·intro y0 y1 y2 y3 y4 y5 y6 y7 y8 y9 y10 y11 y12 y13
   unfold imageeditorref24_reached.j3
   repeat' first
   | (with_reducible exact ih0 _ _ _ _ _ _ _)
   | (with_reducible exact ih1 _ _ _ _ _ _ _ _ _ _)
   | (with_reducible exact ih2 _ _ _ _ _ _ _ _ _ _ _)
   | (with_reducible exact ih3 _ _ _ _ _ _ _ _ _ _ _ _ _ _)
   | (with_reducible exact LeO.refl _)
   | (with_reducible exact LeO.none _)
   | (with_reducible refine LeO.ite ?_ ?_)
   | (with_reducible refine LeO.bind ?_ (fun _ => ?_))
   | exact ih0 _ _ _ _ _ _ _
   | exact ih1 _ _ _ _ _ _ _ _ _ _
   | exact ih2 _ _ _ _ _ _ _ _ _ _ _
   | exact ih3 _ _ _ _ _ _ _ _ _ _ _ _ _ _
   | exact LeO.none _
   | refine LeO.ite ?_ ?_
   | refine LeO.bind ?_ (fun _ => ?_)
theorem imageeditorref24_reached.mono : ∀ a0 a1 a2 a3 a4 k, LeO (imageeditorref24_reached.f k a0 a1 a2 a3 a4) (imageeditorref24_reached.f (k + 1) a0 a1 a2 a3 a4) := by
 intro a0 a1 a2 a3 a4 k
 obtain ⟨ih0, ih1, ih2, ih3⟩ := imageeditorref24_reached.mono_l k
 unfold imageeditorref24_reached.f
 repeat' first
   | (with_reducible exact ih0 _ _ _ _ _ _ _)
   | (with_reducible exact ih1 _ _ _ _ _ _ _ _ _ _)
   | (with_reducible exact ih2 _ _ _ _ _ _ _ _ _ _ _)
   | (with_reducible exact ih3 _ _ _ _ _ _ _ _ _ _ _ _ _ _)
   | (with_reducible exact LeO.refl _)
   | (with_reducible exact LeO.none _)
   | (with_reducible refine LeO.ite ?_ ?_)
   | (with_reducible refine LeO.bind ?_ (fun _ => ?_))
   | exact ih0 _ _ _ _ _ _ _
   | exact ih1 _ _ _ _ _ _ _ _ _ _
   | exact ih2 _ _ _ _ _ _ _ _ _ _ _
   | exact ih3 _ _ _ _ _ _ _ _ _ _ _ _ _ _
   | exact LeO.none _
   | refine LeO.ite ?_ ?_
   | refine LeO.bind ?_ (fun _ => ?_)
set_option maxHeartbeats 8000000 in
set_option maxRecDepth 100000 in
theorem imageeditorref24_reached.calls (k : Nat) (a0 : Int) (a1 : Int) (a2 : Int) (A3 : Option Addr) (c3 : Nat) (l3 : List Bool) (a4 : Bool) (r : List Bool) (w : World) (hr3 : Kd.C Kd.bool w A3 l3.length l3) (hc3 : l3.length ≤ c3) (h : imageeditorref24_reached.f k a0 a1 a2 l3 a4 = some r) :
  Calls Try.prog 27 #[.int .i64 a0, .int .i64 a1, .int .i64 a2, .slice A3 l3.length c3, .bool a4] w fun e w' => ∃ v0_ : Value, e = .returned (v0_) ∧ Kd.R Kd.bool 4 w' w.heap.size (fun _ => True) v0_ r ∧ Below w.heap.size w w' := by
 have HR3 := Aside0.mk hr3
 have HC3 := Aside0.mk hc3
 clear hr3 hc3
 have HB := Aside0.mk (Below.refl w.heap.size w)
 have H : (if 0 ≤ (l3.length : Int) then (if ((l3.length : Int) : Int).toNat ≤ 281474976710656 then ((some (List.replicate ((l3.length : Int) : Int).toNat false : List Bool)).bind fun y224 => (if 0 ≤ a2 then (if a2 < (y224.length : Int) then (imageeditorref24_reached.l0 k a0 a1 l3 a4 (y224.set (a2 : Int).toNat true) (([a2] : List Int)) 0) else (none)) else (none))) else (none)) else (none)) = some r := h
 clear h
 by_cases c6 : 0 ≤ (l3.length : Int)
 ·rw [if_pos c6] at H
  have c6b0 := eq_true c6
  have c6b1 : decide (0 ≤ (l3.length : Int)) = true := decide_eq_true c6
  clear c6
  by_cases c7 : ((l3.length : Int) : Int).toNat ≤ 281474976710656
  ·rw [if_pos c7] at H
   have c7b0 := eq_true c7
   have c7b1 : decide (((l3.length : Int) : Int).toNat ≤ 281474976710656) = true := decide_eq_true c7
   clear c7
   obtain ⟨y224, hy224⟩ : ∃ y_ : List Bool, y_ = (List.replicate ((l3.length : Int) : Int).toNat false) := ⟨_, rfl⟩
   replace H : (if 0 ≤ a2 then (if a2 < (y224.length : Int) then (imageeditorref24_reached.l0 k a0 a1 l3 a4 (y224.set (a2 : Int).toNat true) (([a2] : List Int)) 0) else (none)) else (none)) = some r := by first | (rw [hy224]; with_reducible exact H) | (have H2_ := (Option.bind_some _ _).symm.trans H; rw [hy224]; with_reducible exact H2_) | (have H2_ := (Option.bind_some _ _).symm.trans H; with_reducible exact H2_) | with_reducible exact H | (rw [hy224]; exact H) | exact H
   have Ny224 := Aside0.mk hy224
   clear hy224
   by_cases c8 : 0 ≤ a2
   ·rw [if_pos c8] at H
    have c8b0 : decide (0 ≤ a2) = true := decide_eq_true c8
    clear c8
    by_cases c9 : a2 < (y224.length : Int)
    ·rw [if_pos c9] at H
     have c9b0 : decide (a2 < (y224.length : Int)) = true := decide_eq_true c9
     clear c9
     obtain ⟨y227, hy227⟩ : ∃ y_ : List Bool, y_ = (y224.set (a2 : Int).toNat true) := ⟨_, rfl⟩
     replace H : (imageeditorref24_reached.l0 k a0 a1 l3 a4 y227 (([a2] : List Int)) 0) = some r := by first | (rw [hy227]; with_reducible exact H) | (have H2_ := (Option.bind_some _ _).symm.trans H; rw [hy227]; with_reducible exact H2_) | (have H2_ := (Option.bind_some _ _).symm.trans H; with_reducible exact H2_) | with_reducible exact H | (rw [hy227]; exact H) | exact H
     have Ny227 := Aside0.mk hy227
     clear hy227
     obtain ⟨y228, hy228⟩ : ∃ y_ : List Int, y_ = (([a2] : List Int)) := ⟨_, rfl⟩
     replace H : (imageeditorref24_reached.l0 k a0 a1 l3 a4 y227 y228 0) = some r := by first | (rw [hy228]; with_reducible exact H) | (have H2_ := (Option.bind_some _ _).symm.trans H; rw [hy228]; with_reducible exact H2_) | (have H2_ := (Option.bind_some _ _).symm.trans H; with_reducible exact H2_) | with_reducible exact H | (rw [hy228]; exact H) | exact H
     have Ny228 := Aside0.mk hy228
     clear hy228
     have H' := Aside0.mk H
     clear H
     go_enter Try.func27, Try.ntmps27
     go_wp2_with (first | ((with_reducible refine gate_dst (N := 22) rfl ?_); refine Kd.R_make Kd.bool _ 4 rfl (N := 22) rfl 50 _ _ rfl (l3.length : Int) rfl rfl Try.underlying50 (.bool false) 1 info4 rfl (by decide) (by omega) false (ok := fun _ => True) (okp := fun _ => True) rfl (fun _ hk => hk) trivial (of_decide_eq_true (by first | (with_reducible assumption) | assumption)) (Nat.le_trans (Nat.mul_le_mul_right _ (of_decide_eq_true (by first | (with_reducible assumption) | assumption) : (l3.length : Int).toNat ≤ 281474976710656)) (by omega)) (Below.refl _ _) (Nat.le_refl _) ?_; intro v225 w11 ho12 hb hg_ hnew_; clear hg_ hnew_; (first | rw [← Ny224.out] at ho12 | (simp only [Int.reduceToNat] at ho12; rw [← Ny224.out] at ho12)); have HO226 := zl HB ho12; replace HB := zb HB hb; clear hb ho12; have p10 : 0 ≤ (a2 : Int) := of_decide_eq_true (by first | (with_reducible assumption) | assumption); have q10 : (a2 : Int) < ((y224.length : Int) : Int) := of_decide_eq_true (by first | (with_reducible assumption) | assumption); obtain ⟨go10, co10, eo10, gb10, gl10, cl10, HG10⟩ := Kd.R_form HO226.out (by omega); (first | cases eo10 | (injection eo10 with ea_ en_ ec_; (first | subst ea_ | (injection ea_ with ea_; subst ea_)); subst ec_; clear en_)); have GB10 := Aside0.mk gb10; have GG10 := Aside0.mk HG10; clear gb10 gl10 HG10; obtain ⟨hx10_0, hf10_0⟩ := Kd.R_celln false HO226.out (a2 : Int) p10 q10; replace p10 := eq_true p10; replace q10 := eq_true q10; obtain ⟨hy13_, hz13_⟩ := Kd.R_celln false HO226.out (a2 : Int) (of_decide_eq_true (by first | (with_reducible assumption) | assumption)) (of_decide_eq_true (by first | (with_reducible assumption) | assumption)); have HP13 := Kd.R_putg HO226.out (a2 : Int) true) | ((with_reducible refine gate_store (t := 4) (p := 25) rfl ?_); (try (rw [drewN_self w11]; generalize hq_ : World.drewN w11 _ = w11; have n0_ := Aside0.mk (Kd.R_at hq_ HO226.out); have n1_ := Aside0.mk (below_at hq_ HB.out); clear hq_ HO226 HB; have HO226 := n0_; have HB := n1_; clear n0_ n1_; (try (obtain ⟨hy13_, hz13_⟩ := Kd.R_celln false HO226.out (a2 : Int) (of_decide_eq_true (by first | (with_reducible assumption) | assumption)) (of_decide_eq_true (by first | (with_reducible assumption) | assumption)))); (try (have HP13 := Kd.R_putg HO226.out (a2 : Int) true)))); refine store_event (t := 4) (p := 25) (v := ?vo_w14) (w1 := (w11.setCell ⟨go10, (a2 : Int).toNat, none⟩ (.bool true))) ?hg ?ho ?hn ?hr ?_; (case ho => rfl); (case hg => rfl); (case hn => rfl); (case hr => first | (go_simp; done) | (go_simp; rfl)); intro w14 hw; have hg : w11.grownBy w14 (some go10) := (by rw [hw]; exact HP13.2); have hp_ : Kd.R Kd.bool 4 w14 w.heap.size (fun _ => True) (.slice (some ⟨go10, 0, none⟩) y224.length co10) y227 := (by rw [hw, Ny227.out]; exact HP13.1); clear HP13; have n0_ := Aside0.mk (hp_); have n1_ := Aside0.mk ((by rw [hw]; exact below_set (HB.out) GB10.out : Below w.heap.size w w14)); clear HO226; clear HB; have HO226 := n0_; have HB := n1_; clear n0_ n1_; clear hg hw hp_) | ((with_reducible refine gate_dst (N := 27) rfl ?_); refine Kd.R_lit (Kd.int .i64) _ 3 ?hg (N := 27) ?hd (xs := ([a2] : List Int)) (inner := [.int .i64 a2]) (ok := fun _ => True) (okp := fun _ => True) ?hr ?hp (fun _ hk => hk) trivial (Below.refl _ _) (Nat.le_refl _) (by simp) ?_; (case hd => rfl); (case hg => rfl); (case hr => first | (go_simp; done) | (go_simp; rfl)); (case hp => exact (Reps.one (show Kd.M (Kd.int .i64) _ _ _ a2 [.int .i64 a2] from rfl) (Reps.none _ _))); intro v229 w15 ho16 hb hg_ hnew_; clear hg_ hnew_; (first | rw [← Ny228.out] at ho16 | (simp only [Int.reduceToNat] at ho16; rw [← Ny228.out] at ho16)); have HO230 := zl HB ho16; replace HO226 := zr HO226 hb; replace HB := zb HB hb; clear hb ho16))
     repeat (go_quiet (first | ((with_reducible refine gate_dst (N := 22) rfl ?_); refine Kd.R_make Kd.bool _ 4 rfl (N := 22) rfl 50 _ _ rfl (l3.length : Int) rfl rfl Try.underlying50 (.bool false) 1 info4 rfl (by decide) (by omega) false (ok := fun _ => True) (okp := fun _ => True) rfl (fun _ hk => hk) trivial (of_decide_eq_true (by first | (with_reducible assumption) | assumption)) (Nat.le_trans (Nat.mul_le_mul_right _ (of_decide_eq_true (by first | (with_reducible assumption) | assumption) : (l3.length : Int).toNat ≤ 281474976710656)) (by omega)) (Below.refl _ _) (Nat.le_refl _) ?_; intro v225 w11 ho12 hb hg_ hnew_; clear hg_ hnew_; (first | rw [← Ny224.out] at ho12 | (simp only [Int.reduceToNat] at ho12; rw [← Ny224.out] at ho12)); have HO226 := zl HB ho12; replace HB := zb HB hb; clear hb ho12; have p10 : 0 ≤ (a2 : Int) := of_decide_eq_true (by first | (with_reducible assumption) | assumption); have q10 : (a2 : Int) < ((y224.length : Int) : Int) := of_decide_eq_true (by first | (with_reducible assumption) | assumption); obtain ⟨go10, co10, eo10, gb10, gl10, cl10, HG10⟩ := Kd.R_form HO226.out (by omega); (first | cases eo10 | (injection eo10 with ea_ en_ ec_; (first | subst ea_ | (injection ea_ with ea_; subst ea_)); subst ec_; clear en_)); have GB10 := Aside0.mk gb10; have GG10 := Aside0.mk HG10; clear gb10 gl10 HG10; obtain ⟨hx10_0, hf10_0⟩ := Kd.R_celln false HO226.out (a2 : Int) p10 q10; replace p10 := eq_true p10; replace q10 := eq_true q10; obtain ⟨hy13_, hz13_⟩ := Kd.R_celln false HO226.out (a2 : Int) (of_decide_eq_true (by first | (with_reducible assumption) | assumption)) (of_decide_eq_true (by first | (with_reducible assumption) | assumption)); have HP13 := Kd.R_putg HO226.out (a2 : Int) true) | ((with_reducible refine gate_store (t := 4) (p := 25) rfl ?_); (try (rw [drewN_self w11]; generalize hq_ : World.drewN w11 _ = w11; have n0_ := Aside0.mk (Kd.R_at hq_ HO226.out); have n1_ := Aside0.mk (below_at hq_ HB.out); clear hq_ HO226 HB; have HO226 := n0_; have HB := n1_; clear n0_ n1_; (try (obtain ⟨hy13_, hz13_⟩ := Kd.R_celln false HO226.out (a2 : Int) (of_decide_eq_true (by first | (with_reducible assumption) | assumption)) (of_decide_eq_true (by first | (with_reducible assumption) | assumption)))); (try (have HP13 := Kd.R_putg HO226.out (a2 : Int) true)))); refine store_event (t := 4) (p := 25) (v := ?vo_w14) (w1 := (w11.setCell ⟨go10, (a2 : Int).toNat, none⟩ (.bool true))) ?hg ?ho ?hn ?hr ?_; (case ho => rfl); (case hg => rfl); (case hn => rfl); (case hr => first | (go_simp; done) | (go_simp; rfl)); intro w14 hw; have hg : w11.grownBy w14 (some go10) := (by rw [hw]; exact HP13.2); have hp_ : Kd.R Kd.bool 4 w14 w.heap.size (fun _ => True) (.slice (some ⟨go10, 0, none⟩) y224.length co10) y227 := (by rw [hw, Ny227.out]; exact HP13.1); clear HP13; have n0_ := Aside0.mk (hp_); have n1_ := Aside0.mk ((by rw [hw]; exact below_set (HB.out) GB10.out : Below w.heap.size w w14)); clear HO226; clear HB; have HO226 := n0_; have HB := n1_; clear n0_ n1_; clear hg hw hp_) | ((with_reducible refine gate_dst (N := 27) rfl ?_); refine Kd.R_lit (Kd.int .i64) _ 3 ?hg (N := 27) ?hd (xs := ([a2] : List Int)) (inner := [.int .i64 a2]) (ok := fun _ => True) (okp := fun _ => True) ?hr ?hp (fun _ hk => hk) trivial (Below.refl _ _) (Nat.le_refl _) (by simp) ?_; (case hd => rfl); (case hg => rfl); (case hr => first | (go_simp; done) | (go_simp; rfl)); (case hp => exact (Reps.one (show Kd.M (Kd.int .i64) _ _ _ a2 [.int .i64 a2] from rfl) (Reps.none _ _))); intro v229 w15 ho16 hb hg_ hnew_; clear hg_ hnew_; (first | rw [← Ny228.out] at ho16 | (simp only [Int.reduceToNat] at ho16; rw [← Ny228.out] at ho16)); have HO230 := zl HB ho16; replace HO226 := zr HO226 hb; replace HB := zb HB hb; clear hb ho16)); try go_wp2_with (first | ((with_reducible refine gate_dst (N := 22) rfl ?_); refine Kd.R_make Kd.bool _ 4 rfl (N := 22) rfl 50 _ _ rfl (l3.length : Int) rfl rfl Try.underlying50 (.bool false) 1 info4 rfl (by decide) (by omega) false (ok := fun _ => True) (okp := fun _ => True) rfl (fun _ hk => hk) trivial (of_decide_eq_true (by first | (with_reducible assumption) | assumption)) (Nat.le_trans (Nat.mul_le_mul_right _ (of_decide_eq_true (by first | (with_reducible assumption) | assumption) : (l3.length : Int).toNat ≤ 281474976710656)) (by omega)) (Below.refl _ _) (Nat.le_refl _) ?_; intro v225 w11 ho12 hb hg_ hnew_; clear hg_ hnew_; (first | rw [← Ny224.out] at ho12 | (simp only [Int.reduceToNat] at ho12; rw [← Ny224.out] at ho12)); have HO226 := zl HB ho12; replace HB := zb HB hb; clear hb ho12; have p10 : 0 ≤ (a2 : Int) := of_decide_eq_true (by first | (with_reducible assumption) | assumption); have q10 : (a2 : Int) < ((y224.length : Int) : Int) := of_decide_eq_true (by first | (with_reducible assumption) | assumption); obtain ⟨go10, co10, eo10, gb10, gl10, cl10, HG10⟩ := Kd.R_form HO226.out (by omega); (first | cases eo10 | (injection eo10 with ea_ en_ ec_; (first | subst ea_ | (injection ea_ with ea_; subst ea_)); subst ec_; clear en_)); have GB10 := Aside0.mk gb10; have GG10 := Aside0.mk HG10; clear gb10 gl10 HG10; obtain ⟨hx10_0, hf10_0⟩ := Kd.R_celln false HO226.out (a2 : Int) p10 q10; replace p10 := eq_true p10; replace q10 := eq_true q10; obtain ⟨hy13_, hz13_⟩ := Kd.R_celln false HO226.out (a2 : Int) (of_decide_eq_true (by first | (with_reducible assumption) | assumption)) (of_decide_eq_true (by first | (with_reducible assumption) | assumption)); have HP13 := Kd.R_putg HO226.out (a2 : Int) true) | ((with_reducible refine gate_store (t := 4) (p := 25) rfl ?_); (try (rw [drewN_self w11]; generalize hq_ : World.drewN w11 _ = w11; have n0_ := Aside0.mk (Kd.R_at hq_ HO226.out); have n1_ := Aside0.mk (below_at hq_ HB.out); clear hq_ HO226 HB; have HO226 := n0_; have HB := n1_; clear n0_ n1_; (try (obtain ⟨hy13_, hz13_⟩ := Kd.R_celln false HO226.out (a2 : Int) (of_decide_eq_true (by first | (with_reducible assumption) | assumption)) (of_decide_eq_true (by first | (with_reducible assumption) | assumption)))); (try (have HP13 := Kd.R_putg HO226.out (a2 : Int) true)))); refine store_event (t := 4) (p := 25) (v := ?vo_w14) (w1 := (w11.setCell ⟨go10, (a2 : Int).toNat, none⟩ (.bool true))) ?hg ?ho ?hn ?hr ?_; (case ho => rfl); (case hg => rfl); (case hn => rfl); (case hr => first | (go_simp; done) | (go_simp; rfl)); intro w14 hw; have hg : w11.grownBy w14 (some go10) := (by rw [hw]; exact HP13.2); have hp_ : Kd.R Kd.bool 4 w14 w.heap.size (fun _ => True) (.slice (some ⟨go10, 0, none⟩) y224.length co10) y227 := (by rw [hw, Ny227.out]; exact HP13.1); clear HP13; have n0_ := Aside0.mk (hp_); have n1_ := Aside0.mk ((by rw [hw]; exact below_set (HB.out) GB10.out : Below w.heap.size w w14)); clear HO226; clear HB; have HO226 := n0_; have HB := n1_; clear n0_ n1_; clear hg hw hp_) | ((with_reducible refine gate_dst (N := 27) rfl ?_); refine Kd.R_lit (Kd.int .i64) _ 3 ?hg (N := 27) ?hd (xs := ([a2] : List Int)) (inner := [.int .i64 a2]) (ok := fun _ => True) (okp := fun _ => True) ?hr ?hp (fun _ hk => hk) trivial (Below.refl _ _) (Nat.le_refl _) (by simp) ?_; (case hd => rfl); (case hg => rfl); (case hr => first | (go_simp; done) | (go_simp; rfl)); (case hp => exact (Reps.one (show Kd.M (Kd.int .i64) _ _ _ a2 [.int .i64 a2] from rfl) (Reps.none _ _))); intro v229 w15 ho16 hb hg_ hnew_; clear hg_ hnew_; (first | rw [← Ny228.out] at ho16 | (simp only [Int.reduceToNat] at ho16; rw [← Ny228.out] at ho16)); have HO230 := zl HB ho16; replace HO226 := zr HO226 hb; replace HB := zb HB hb; clear hb ho16)))
     (try simp only [Act.put, sA, sB, sC])
     go_loopg [12, 13] k (fun kq v12 v13 w' => ∃ (x11_1 : List Bool) (x12_1 : List Int) (x13_1 : Int), v13 = .int .i64 x13_1 ∧ Aside0 (imageeditorref24_reached.l0 kq a0 a1 l3 a4 x11_1 x12_1 x13_1 = some r) ∧ Aside0 (kq ≤ k) ∧ Aside0 (Kd.R Kd.bool 4 w' w.heap.size (fun _ => True) (.slice (some ⟨go10, 0, none⟩) y224.length co10) x11_1) ∧ Aside0 (Kd.R (Kd.int .i64) 3 w' w.heap.size (fun _ => True) v12 x12_1) ∧ Aside0 (Below w.heap.size w w'))
     case atStart => exact ⟨(y227), (y228), (0), (by first | rfl | (simp; done) | (simp [*]; done)), H', ⟨Nat.le_refl _⟩, ⟨by exact zr0 HO226⟩, ⟨by exact zr0 HO230⟩, ⟨by exact zb0 HB⟩⟩
     case round =>
      clear H'
      try clear p1
      try clear q1
      try clear hx1
      try clear c2
      try clear p2
      try clear c3
      try clear c6
      try clear c6b0
      try clear c6b1
      try clear c7
      try clear c7b0
      try clear c7b1
      try clear c8
      try clear c8b0
      try clear c9
      try clear c9b0
      try clear p10
      try clear q10
      try clear hx10
      try clear hf10
      try clear hx10_0
      try clear p10
      try clear q10
      obtain ⟨x11_1, x12_1, x13_1, rfl, HA, HK1, HO_11, HO_12, HB⟩ := hrel
      have hl11_1 := (Kd.R_reads' HO_11.out).1
      rw [hl11_1] at HO_11
      (try simp only [hl11_1])
      (try simp only [hl11_1] at HO_12)
      cases gk with
      | zero => exact absurd HA.out (by simp [imageeditorref24_reached.l0])
      | succ k1 =>
       have H := HA.out
       clear HA
       simp only [imageeditorref24_reached.l0] at H
       by_cases c17 : x13_1 < (x12_1.length : Int)
       ·rw [if_pos c17] at H
        have c17b0 : decide (x13_1 < (x12_1.length : Int)) = true := decide_eq_true c17
        clear c17
        by_cases c18 : 0 ≤ x13_1
        ·rw [if_pos c18] at H
         have c18b0 : decide (0 ≤ x13_1) = true := decide_eq_true c18
         clear c18
         by_cases c19 : a0 = 0
         ·rw [if_pos c19] at H
          exact absurd H (by simp)
         ·rw [if_neg c19] at H
          have c19b0 : (a0 == 0) = false := beq_eq_false_iff_ne.mpr c19
          have c19b1 : (a0 != 0) = true := bne_iff_ne.mpr c19
          have H' := Aside0.mk H
          clear H
          obtain ⟨Ao20, co20, eo20⟩ := Kd.R_slice HO_12.out
          subst eo20
          have p231 : 0 ≤ (x13_1 : Int) := of_decide_eq_true (by first | (with_reducible assumption) | assumption)
          have q231 : x13_1 < (x12_1.length : Int) := of_decide_eq_true (by first | (with_reducible assumption) | assumption)
          obtain ⟨ad231, e231, hx231_0⟩ := Kd.at_int (Kd.R_reads' HO_12.out).2.2 x13_1 p231 q231
          cases e231
          replace p231 := eq_true p231
          replace q231 := eq_true q231
          have p232 : 0 ≤ (x13_1 : Int) := of_decide_eq_true (by first | (with_reducible assumption) | assumption)
          have q232 : x13_1 < (x12_1.length : Int) := of_decide_eq_true (by first | (with_reducible assumption) | assumption)
          obtain ⟨ad232, e232, hx232_0⟩ := Kd.at_int (Kd.R_reads' HO_12.out).2.2 x13_1 p232 q232
          obtain rfl : ad231 = ad232 := (by injection e232)
          replace p232 := eq_true p232
          replace q232 := eq_true q232
          go_wp2
          repeat (go_quiet (fail); try go_wp2)
          go_loopg [12, 16] k1 (fun kq v12 v16 w' => ∃ (x11_2 : List Bool) (x12_2 : List Int) (x16_2 : Int), v16 = .int .i64 x16_2 ∧ Aside0 (imageeditorref24_reached.l1 kq a0 a1 l3 a4 x11_2 x12_2 x13_1 (Int.tmod (rd x12_1 x13_1) a0) (wrap64 (Int.tdiv (rd x12_1 x13_1) a0)) x16_2 = some r) ∧ Aside0 (kq ≤ k1) ∧ Aside0 (Kd.R Kd.bool 4 w' w.heap.size (fun _ => True) (.slice (some ⟨go10, 0, none⟩) x11_1.length co10) x11_2) ∧ Aside0 (Kd.R (Kd.int .i64) 3 w' w.heap.size (fun _ => True) v12 x12_2) ∧ Aside0 (Below w.heap.size w w'))
          case atStart => exact ⟨(x11_1), (x12_1), ((-1)), (by first | rfl | (simp; done) | (simp [*]; done)), H', ⟨Nat.le_refl _⟩, ⟨by (try simp only [hl11_1]); exact zr0 HO_11⟩, ⟨by (try simp only [hl11_1]); exact zr0 HO_12⟩, ⟨by exact zb0 HB⟩⟩
          case round =>
           clear H'
           try clear c1
           try clear p1
           try clear q1
           try clear hx1
           try clear c2
           try clear p2
           try clear q2
           try clear hx2
           try clear c3
           try clear c6
           try clear c6b0
           try clear c6b1
           try clear p6
           try clear c7
           try clear c7b0
           try clear c7b1
           try clear c8
           try clear c8b0
           try clear c9
           try clear c9b0
           try clear p10
           try clear q10
           try clear hx10
           try clear hf10
           try clear c17
           try clear c17b0
           try clear c18
           try clear c18b0
           try clear c19
           try clear c19b0
           try clear c19b1
           try clear hx10_0
           try clear hx231_0
           try clear hx232_0
           try clear p1
           try clear p10
           try clear p2
           try clear p231
           try clear p232
           try clear q1
           try clear q10
           try clear q231
           try clear q232
           obtain ⟨x11_2, x12_2, x16_2, rfl, HA, HK2, HO_11, HO_12, HB⟩ := hrel
           have hl11_2 := (Kd.R_reads' HO_11.out).1
           rw [hl11_2] at HO_11
           (try simp only [hl11_2])
           (try simp only [hl11_2] at HO_12)
           cases gk with
           | zero => exact absurd HA.out (by simp [imageeditorref24_reached.l1])
           | succ k2 =>
            have H := HA.out
            clear HA
            simp only [imageeditorref24_reached.l1] at H
            by_cases c21 : x16_2 ≤ 1
            ·rw [if_pos c21] at H
             have c21b0 : decide (x16_2 ≤ 1) = true := decide_eq_true c21
             clear c21
             have H' := Aside0.mk H
             clear H
             go_wp2
             repeat (go_quiet (fail); try go_wp2)
             go_loopg [12, 17] k2 (fun kq v12 v17 w' => ∃ (x11_3 : List Bool) (x12_3 : List Int) (x17_3 : Int), v17 = .int .i64 x17_3 ∧ Aside0 (imageeditorref24_reached.l2 kq a0 a1 l3 a4 x11_3 x12_3 x13_1 (Int.tmod (rd x12_1 x13_1) a0) (wrap64 (Int.tdiv (rd x12_1 x13_1) a0)) x16_2 x17_3 = some r) ∧ Aside0 (kq ≤ k2) ∧ Aside0 (Kd.R Kd.bool 4 w' w.heap.size (fun _ => True) (.slice (some ⟨go10, 0, none⟩) x11_2.length co10) x11_3) ∧ Aside0 (Kd.R (Kd.int .i64) 3 w' w.heap.size (fun _ => True) v12 x12_3) ∧ Aside0 (Below w.heap.size w w'))
             case atStart => exact ⟨(x11_2), (x12_2), ((-1)), (by first | rfl | (simp; done) | (simp [*]; done)), H', ⟨Nat.le_refl _⟩, ⟨by (try simp only [hl11_1]); (try simp only [hl11_2]); exact zr0 HO_11⟩, ⟨by (try simp only [hl11_1]); (try simp only [hl11_2]); exact zr0 HO_12⟩, ⟨by exact zb0 HB⟩⟩
             case round =>
              clear H'
              try clear c1
              try clear p1
              try clear q1
              try clear hx1
              try clear c2
              try clear p2
              try clear q2
              try clear hx2
              try clear c3
              try clear c6
              try clear c6b0
              try clear c6b1
              try clear p6
              try clear c7
              try clear c7b0
              try clear c7b1
              try clear c8
              try clear c8b0
              try clear c9
              try clear c9b0
              try clear p10
              try clear q10
              try clear hx10
              try clear hf10
              try clear c17
              try clear c17b0
              try clear c18
              try clear c18b0
              try clear c19
              try clear c19b0
              try clear c19b1
              try clear c21
              try clear c21b0
              try clear hx10_0
              try clear hx231_0
              try clear hx232_0
              try clear p1
              try clear p10
              try clear p2
              try clear p231
              try clear p232
              try clear p6
              try clear q1
              try clear q10
              try clear q2
              try clear q231
              try clear q232
              obtain ⟨x11_3, x12_3, x17_3, rfl, HA, HK3, HO_11, HO_12, HB⟩ := hrel
              have hl11_3 := (Kd.R_reads' HO_11.out).1
              rw [hl11_3] at HO_11
              (try simp only [hl11_3])
              (try simp only [hl11_3] at HO_12)
              cases gk with
              | zero => exact absurd HA.out (by simp [imageeditorref24_reached.l2])
              | succ k3 =>
               have H := HA.out
               clear HA
               simp only [imageeditorref24_reached.l2] at H
               by_cases c22 : x17_3 ≤ 1
               ·rw [if_pos c22] at H
                have c22b0 : decide (x17_3 ≤ 1) = true := decide_eq_true c22
                clear c22
                have HC23 := Aside0.mk H
                clear H
                go_upto_region 15 with (fail)
                repeat (go_quiet (fail); go_upto_region 15 with (fail))
                go_cut [87] (fun v87 wc => ∃ (kq : Nat) (x87_22 : Bool), v87 = .bool x87_22 ∧ Aside0 (imageeditorref24_reached.j3 kq a0 a1 l3 a4 x11_3 x12_3 x13_1 (Int.tmod (rd x12_1 x13_1) a0) (wrap64 (Int.tdiv (rd x12_1 x13_1) a0)) x16_2 x17_3 (wrap64 ((Int.tmod (rd x12_1 x13_1) a0) + x17_3)) (wrap64 ((wrap64 (Int.tdiv (rd x12_1 x13_1) a0)) + x16_2)) x87_22 = some r) ∧ Aside0 (kq ≤ k3) ∧ Aside0 (Kd.R Kd.bool 4 wc w.heap.size (fun _ => True) (.slice (some ⟨go10, 0, none⟩) x11_3.length co10) x11_3) ∧ Aside0 (Kd.R (Kd.int .i64) 3 wc w.heap.size (fun _ => True) u12 x12_3) ∧ Aside0 (Below w.heap.size w wc))
                case first =>
                 have H := HC23.out
                 clear HC23
                 by_cases c24 : (wrap64 ((Int.tmod (rd x12_1 x13_1) a0) + x17_3)) < 0
                 ·rw [if_pos c24] at H
                  have c24b0 : decide ((wrap64 ((Int.tmod (rd x12_1 x13_1) a0) + x17_3)) < 0) = true := decide_eq_true c24
                  clear c24
                  (first | rw [c24b0] | (simp only [i64_w, i32_w]; rw [c24b0]) | skip)
                  have H' := Aside0.mk H
                  clear H
                  go_wp2
                  repeat (go_quiet (fail); try go_wp2)
                  go_meet
                  case rel => exact ⟨_, (true), (by first | rfl | (simp; done) | (simp [*]; done)), H', ⟨by have := HK1.out; have := HK2.out; have := HK3.out; first | omega | exact Nat.le_refl _⟩, ⟨by (try simp only [hl11_1]); (try simp only [hl11_2]); (try simp only [hl11_3]); exact zr0 HO_11⟩, ⟨by (try simp only [hl11_1]); (try simp only [hl11_2]); (try simp only [hl11_3]); exact zr0 HO_12⟩, ⟨by exact zb0 HB⟩⟩
                 ·rw [if_neg c24] at H
                  have c24b0 : decide ((wrap64 ((Int.tmod (rd x12_1 x13_1) a0) + x17_3)) < 0) = false := decide_eq_false c24
                  clear c24
                  (first | rw [c24b0] | (simp only [i64_w, i32_w]; rw [c24b0]) | skip)
                  by_cases c25 : (wrap64 ((wrap64 (Int.tdiv (rd x12_1 x13_1) a0)) + x16_2)) < 0
                  ·rw [if_pos c25] at H
                   have c25b0 : decide ((wrap64 ((wrap64 (Int.tdiv (rd x12_1 x13_1) a0)) + x16_2)) < 0) = true := decide_eq_true c25
                   clear c25
                   have H' := Aside0.mk H
                   clear H
                   go_wp2
                   repeat (go_quiet (fail); try go_wp2)
                   go_meet
                   case rel => exact ⟨_, (true), (by first | rfl | (simp; done) | (simp [*]; done)), H', ⟨by have := HK1.out; have := HK2.out; have := HK3.out; first | omega | exact Nat.le_refl _⟩, ⟨by (try simp only [hl11_1]); (try simp only [hl11_2]); (try simp only [hl11_3]); exact zr0 HO_11⟩, ⟨by (try simp only [hl11_1]); (try simp only [hl11_2]); (try simp only [hl11_3]); exact zr0 HO_12⟩, ⟨by exact zb0 HB⟩⟩
                  ·rw [if_neg c25] at H
                   have c25b0 : decide ((wrap64 ((wrap64 (Int.tdiv (rd x12_1 x13_1) a0)) + x16_2)) < 0) = false := decide_eq_false c25
                   clear c25
                   by_cases c26 : (wrap64 ((Int.tmod (rd x12_1 x13_1) a0) + x17_3)) ≥ a0
                   ·rw [if_pos c26] at H
                    have c26b0 : decide (a0 ≤ (wrap64 ((Int.tmod (rd x12_1 x13_1) a0) + x17_3))) = true := decide_eq_true c26
                    clear c26
                    have H' := Aside0.mk H
                    clear H
                    go_wp2
                    repeat (go_quiet (fail); try go_wp2)
                    go_meet
                    case rel => exact ⟨_, (true), (by first | rfl | (simp; done) | (simp [*]; done)), H', ⟨by have := HK1.out; have := HK2.out; have := HK3.out; first | omega | exact Nat.le_refl _⟩, ⟨by (try simp only [hl11_1]); (try simp only [hl11_2]); (try simp only [hl11_3]); exact zr0 HO_11⟩, ⟨by (try simp only [hl11_1]); (try simp only [hl11_2]); (try simp only [hl11_3]); exact zr0 HO_12⟩, ⟨by exact zb0 HB⟩⟩
                   ·rw [if_neg c26] at H
                    have c26b0 : decide (a0 ≤ (wrap64 ((Int.tmod (rd x12_1 x13_1) a0) + x17_3))) = false := decide_eq_false c26
                    clear c26
                    by_cases c27 : (wrap64 ((wrap64 (Int.tdiv (rd x12_1 x13_1) a0)) + x16_2)) ≥ a1
                    ·rw [if_pos c27] at H
                     have c27b0 : decide (a1 ≤ (wrap64 ((wrap64 (Int.tdiv (rd x12_1 x13_1) a0)) + x16_2))) = true := decide_eq_true c27
                     clear c27
                     have H' := Aside0.mk H
                     clear H
                     go_wp2
                     repeat (go_quiet (fail); try go_wp2)
                     go_meet
                     case rel => exact ⟨_, (true), (by first | rfl | (simp; done) | (simp [*]; done)), H', ⟨by have := HK1.out; have := HK2.out; have := HK3.out; first | omega | exact Nat.le_refl _⟩, ⟨by (try simp only [hl11_1]); (try simp only [hl11_2]); (try simp only [hl11_3]); exact zr0 HO_11⟩, ⟨by (try simp only [hl11_1]); (try simp only [hl11_2]); (try simp only [hl11_3]); exact zr0 HO_12⟩, ⟨by exact zb0 HB⟩⟩
                    ·rw [if_neg c27] at H
                     have c27b0 : decide (a1 ≤ (wrap64 ((wrap64 (Int.tdiv (rd x12_1 x13_1) a0)) + x16_2))) = false := decide_eq_false c27
                     clear c27
                     by_cases c28 : a4 = true
                     ·subst c28
                      have H1 : (imageeditorref24_reached.j3 k3 a0 a1 l3 true x11_3 x12_3 x13_1 (Int.tmod (rd x12_1 x13_1) a0) (wrap64 (Int.tdiv (rd x12_1 x13_1) a0)) x16_2 x17_3 (wrap64 ((Int.tmod (rd x12_1 x13_1) a0) + x17_3)) (wrap64 ((wrap64 (Int.tdiv (rd x12_1 x13_1) a0)) + x16_2)) false) = some r := by rw [if_pos rfl] at H; exact H
                      clear H
                      have H := H1
                      clear H1
                      have H' := Aside0.mk H
                      clear H
                      go_wp2
                      repeat (go_quiet (fail); try go_wp2)
                      go_meet
                      case rel => exact ⟨_, (false), (by first | rfl | (simp; done) | (simp [*]; done)), H', ⟨by have := HK1.out; have := HK2.out; have := HK3.out; first | omega | exact Nat.le_refl _⟩, ⟨by (try simp only [hl11_1]); (try simp only [hl11_2]); (try simp only [hl11_3]); exact zr0 HO_11⟩, ⟨by (try simp only [hl11_1]); (try simp only [hl11_2]); (try simp only [hl11_3]); exact zr0 HO_12⟩, ⟨by exact zb0 HB⟩⟩
                     ·replace c28 := Bool.eq_false_iff.mpr c28
                      subst c28
                      have H1 : (if x17_3 = 0 then (imageeditorref24_reached.j3 k3 a0 a1 l3 false x11_3 x12_3 x13_1 (Int.tmod (rd x12_1 x13_1) a0) (wrap64 (Int.tdiv (rd x12_1 x13_1) a0)) x16_2 x17_3 (wrap64 ((Int.tmod (rd x12_1 x13_1) a0) + x17_3)) (wrap64 ((wrap64 (Int.tdiv (rd x12_1 x13_1) a0)) + x16_2)) false) else (imageeditorref24_reached.j3 k3 a0 a1 l3 false x11_3 x12_3 x13_1 (Int.tmod (rd x12_1 x13_1) a0) (wrap64 (Int.tdiv (rd x12_1 x13_1) a0)) x16_2 x17_3 (wrap64 ((Int.tmod (rd x12_1 x13_1) a0) + x17_3)) (wrap64 ((wrap64 (Int.tdiv (rd x12_1 x13_1) a0)) + x16_2)) (x16_2 != 0))) = some r := by rw [if_neg (show ¬ (false = true) by decide)] at H; exact H
                      clear H
                      have H := H1
                      clear H1
                      by_cases c29 : x17_3 = 0
                      ·rw [if_pos c29] at H
                       have c29b0 : (x17_3 == 0) = true := beq_iff_eq.mpr c29
                       have c29b1 : (x17_3 != 0) = false := bne_eq_false_iff_eq.mpr c29
                       clear c29
                       have H' := Aside0.mk H
                       clear H
                       go_wp2
                       repeat (go_quiet (fail); try go_wp2)
                       go_meet
                       case rel => exact ⟨_, (false), (by first | rfl | (simp; done) | (simp [*]; done)), H', ⟨by have := HK1.out; have := HK2.out; have := HK3.out; first | omega | exact Nat.le_refl _⟩, ⟨by (try simp only [hl11_1]); (try simp only [hl11_2]); (try simp only [hl11_3]); exact zr0 HO_11⟩, ⟨by (try simp only [hl11_1]); (try simp only [hl11_2]); (try simp only [hl11_3]); exact zr0 HO_12⟩, ⟨by exact zb0 HB⟩⟩
                      ·rw [if_neg c29] at H
                       have c29b0 : (x17_3 == 0) = false := beq_eq_false_iff_ne.mpr c29
                       have c29b1 : (x17_3 != 0) = true := bne_iff_ne.mpr c29
                       have H' := Aside0.mk H
                       clear H
                       go_wp2
                       repeat (go_quiet (fail); try go_wp2)
                       go_meet
                       case rel => exact ⟨_, ((x16_2 != 0)), (by first | rfl | (simp; done) | (simp [*]; done)), H', ⟨by have := HK1.out; have := HK2.out; have := HK3.out; first | omega | exact Nat.le_refl _⟩, ⟨by (try simp only [hl11_1]); (try simp only [hl11_2]); (try simp only [hl11_3]); exact zr0 HO_11⟩, ⟨by (try simp only [hl11_1]); (try simp only [hl11_2]); (try simp only [hl11_3]); exact zr0 HO_12⟩, ⟨by exact zb0 HB⟩⟩
                case rest =>
                 clear HC23
                 try clear c1
                 try clear p1
                 try clear q1
                 try clear hx1
                 try clear c2
                 try clear p2
                 try clear q2
                 try clear hx2
                 try clear c3
                 try clear c6
                 try clear c6b0
                 try clear c6b1
                 try clear p6
                 try clear c7
                 try clear c7b0
                 try clear c7b1
                 try clear c8
                 try clear c8b0
                 try clear c9
                 try clear c9b0
                 try clear p10
                 try clear q10
                 try clear hx10
                 try clear hf10
                 try clear c17
                 try clear c17b0
                 try clear c18
                 try clear c18b0
                 try clear c19
                 try clear c19b0
                 try clear c19b1
                 try clear c21
                 try clear c21b0
                 try clear c22
                 try clear c22b0
                 try clear p23
                 try clear q23
                 try clear hx23
                 try clear c24
                 try clear c24b0
                 try clear c25
                 try clear c25b0
                 try clear c26
                 try clear c26b0
                 try clear c27
                 try clear c27b0
                 try clear c28
                 try clear c29
                 try clear c29b0
                 try clear c29b1
                 try clear hx10_0
                 try clear hx231_0
                 try clear hx232_0
                 try clear p1
                 try clear p10
                 try clear p2
                 try clear p231
                 try clear p232
                 try clear p6
                 try clear q1
                 try clear q10
                 try clear q2
                 try clear q231
                 try clear q232
                 obtain ⟨kq, x87_22, rfl, HA, HJ22, HO_11, HO_12, HB⟩ := hcut
                 cases kq with
                 | zero => exact absurd HA.out (by simp [imageeditorref24_reached.j3])
                 | succ kj22 =>
                  have H := HA.out
                  clear HA
                  simp only [imageeditorref24_reached.j3] at H
                  by_cases c30 : x87_22 = true
                  ·subst c30
                   have H1 : (imageeditorref24_reached.l2 kj22 a0 a1 l3 a4 x11_3 x12_3 x13_1 (Int.tmod (rd x12_1 x13_1) a0) (wrap64 (Int.tdiv (rd x12_1 x13_1) a0)) x16_2 (wrap64 (x17_3 + 1))) = some r := by rw [if_pos rfl] at H; exact H
                   clear H
                   have H := H1
                   clear H1
                   have H' := Aside0.mk H
                   clear H
                   go_wp2
                   repeat (go_quiet (fail); try go_wp2)
                   (try simp only [← hl11_3])
                   go_roundg kj22
                   case measure => have := HK1.out; have := HK2.out; have := HK3.out; have := HJ22.out; omega
                   case rel => exact ⟨(x11_3), (x12_3), (wrap64 (x17_3 + 1)), (by first | rfl | (simp; done) | (simp [*]; done)), H', ⟨by have := HK1.out; have := HK2.out; have := HK3.out; have := HJ22.out; omega⟩, ⟨by (try simp only [hl11_1]); (try simp only [hl11_2]); (try simp only [hl11_3]); exact zr0 HO_11⟩, ⟨by (try simp only [hl11_1]); (try simp only [hl11_2]); (try simp only [hl11_3]); exact zr0 HO_12⟩, ⟨by exact zb0 HB⟩⟩
                  ·replace c30 := Bool.eq_false_iff.mpr c30
                   subst c30
                   have H1 : (if 0 ≤ (wrap64 ((wrap64 ((wrap64 ((wrap64 (Int.tdiv (rd x12_1 x13_1) a0)) + x16_2)) * a0)) + (wrap64 ((Int.tmod (rd x12_1 x13_1) a0) + x17_3)))) then (if (wrap64 ((wrap64 ((wrap64 ((wrap64 (Int.tdiv (rd x12_1 x13_1) a0)) + x16_2)) * a0)) + (wrap64 ((Int.tmod (rd x12_1 x13_1) a0) + x17_3)))) < (l3.length : Int) then (if rdOf false l3 (wrap64 ((wrap64 ((wrap64 ((wrap64 (Int.tdiv (rd x12_1 x13_1) a0)) + x16_2)) * a0)) + (wrap64 ((Int.tmod (rd x12_1 x13_1) a0) + x17_3)))) = true then (if (wrap64 ((wrap64 ((wrap64 ((wrap64 (Int.tdiv (rd x12_1 x13_1) a0)) + x16_2)) * a0)) + (wrap64 ((Int.tmod (rd x12_1 x13_1) a0) + x17_3)))) < (x11_3.length : Int) then (if (rdOf false x11_3 (wrap64 ((wrap64 ((wrap64 ((wrap64 (Int.tdiv (rd x12_1 x13_1) a0)) + x16_2)) * a0)) + (wrap64 ((Int.tmod (rd x12_1 x13_1) a0) + x17_3)))) = true) then (imageeditorref24_reached.l2 kj22 a0 a1 l3 a4 x11_3 x12_3 x13_1 (Int.tmod (rd x12_1 x13_1) a0) (wrap64 (Int.tdiv (rd x12_1 x13_1) a0)) x16_2 (wrap64 (x17_3 + 1))) else (if x12_3.length < 17592186044416 then (imageeditorref24_reached.l2 kj22 a0 a1 l3 a4 (x11_3.set ((wrap64 ((wrap64 ((wrap64 ((wrap64 (Int.tdiv (rd x12_1 x13_1) a0)) + x16_2)) * a0)) + (wrap64 ((Int.tmod (rd x12_1 x13_1) a0) + x17_3)))) : Int).toNat true) (x12_3 ++ [wrap64 ((wrap64 ((wrap64 ((wrap64 (Int.tdiv (rd x12_1 x13_1) a0)) + x16_2)) * a0)) + (wrap64 ((Int.tmod (rd x12_1 x13_1) a0) + x17_3)))]) x13_1 (Int.tmod (rd x12_1 x13_1) a0) (wrap64 (Int.tdiv (rd x12_1 x13_1) a0)) x16_2 (wrap64 (x17_3 + 1))) else (none))) else (none)) else (imageeditorref24_reached.l2 kj22 a0 a1 l3 a4 x11_3 x12_3 x13_1 (Int.tmod (rd x12_1 x13_1) a0) (wrap64 (Int.tdiv (rd x12_1 x13_1) a0)) x16_2 (wrap64 (x17_3 + 1)))) else (none)) else (none)) = some r := by rw [if_neg (show ¬ (false = true) by decide)] at H; exact H
                   clear H
                   have H := H1
                   clear H1
                   obtain ⟨ji31, hji31⟩ : ∃ j_ : Int, (wrap64 ((wrap64 ((wrap64 ((wrap64 (Int.tdiv (rd x12_1 x13_1) a0)) + x16_2)) * a0)) + (wrap64 ((Int.tmod (rd x12_1 x13_1) a0) + x17_3)))) = j_ := ⟨_, rfl⟩
                   replace H : (if 0 ≤ (ji31) then (if (ji31) < (l3.length : Int) then (if rdOf false l3 (ji31) = true then (if (ji31) < (x11_3.length : Int) then (if (rdOf false x11_3 (ji31) = true) then (imageeditorref24_reached.l2 kj22 a0 a1 l3 a4 x11_3 x12_3 x13_1 (Int.tmod (rd x12_1 x13_1) a0) (wrap64 (Int.tdiv (rd x12_1 x13_1) a0)) x16_2 (wrap64 (x17_3 + 1))) else (if x12_3.length < 17592186044416 then (imageeditorref24_reached.l2 kj22 a0 a1 l3 a4 (x11_3.set ((ji31) : Int).toNat true) (x12_3 ++ [ji31]) x13_1 (Int.tmod (rd x12_1 x13_1) a0) (wrap64 (Int.tdiv (rd x12_1 x13_1) a0)) x16_2 (wrap64 (x17_3 + 1))) else (none))) else (none)) else (imageeditorref24_reached.l2 kj22 a0 a1 l3 a4 x11_3 x12_3 x13_1 (Int.tmod (rd x12_1 x13_1) a0) (wrap64 (Int.tdiv (rd x12_1 x13_1) a0)) x16_2 (wrap64 (x17_3 + 1)))) else (none)) else (none)) = some r := by first | (rw [hji31] at H; exact H) | (simp only [hji31] at H ⊢; exact H)
                   have hji31w : (IntKind.i64.wrap ((wrap64 ((wrap64 ((wrap64 (Int.tdiv (rd x12_1 x13_1) a0)) + x16_2)) * a0)) + (wrap64 ((Int.tmod (rd x12_1 x13_1) a0) + x17_3)))) = ji31 := (i64_w _).trans hji31
                   by_cases c32 : 0 ≤ (ji31)
                   ·rw [if_pos c32] at H
                    have c32b0 : decide (0 ≤ (ji31)) = true := decide_eq_true c32
                    clear c32
                    by_cases c33 : (ji31) < (l3.length : Int)
                    ·rw [if_pos c33] at H
                     have c33b0 : decide ((ji31) < (l3.length : Int)) = true := decide_eq_true c33
                     clear c33
                     obtain ⟨bq34, hbq34⟩ : ∃ b_ : Bool, b_ = (rdOf false l3 (ji31)) := ⟨_, rfl⟩
                     replace H : (if bq34 = true then (if (ji31) < (x11_3.length : Int) then (if (rdOf false x11_3 (ji31) = true) then (imageeditorref24_reached.l2 kj22 a0 a1 l3 a4 x11_3 x12_3 x13_1 (Int.tmod (rd x12_1 x13_1) a0) (wrap64 (Int.tdiv (rd x12_1 x13_1) a0)) x16_2 (wrap64 (x17_3 + 1))) else (if x12_3.length < 17592186044416 then (imageeditorref24_reached.l2 kj22 a0 a1 l3 a4 (x11_3.set ((ji31) : Int).toNat true) (x12_3 ++ [ji31]) x13_1 (Int.tmod (rd x12_1 x13_1) a0) (wrap64 (Int.tdiv (rd x12_1 x13_1) a0)) x16_2 (wrap64 (x17_3 + 1))) else (none))) else (none)) else (imageeditorref24_reached.l2 kj22 a0 a1 l3 a4 x11_3 x12_3 x13_1 (Int.tmod (rd x12_1 x13_1) a0) (wrap64 (Int.tdiv (rd x12_1 x13_1) a0)) x16_2 (wrap64 (x17_3 + 1)))) = some r := by rw [← hbq34] at H; exact H
                     have Nbq34 := Aside0.mk hbq34
                     clear hbq34
                     by_cases c35 : bq34 = true
                     ·subst c35
                      have H1 : (if (ji31) < (x11_3.length : Int) then (if (rdOf false x11_3 (ji31) = true) then (imageeditorref24_reached.l2 kj22 a0 a1 l3 a4 x11_3 x12_3 x13_1 (Int.tmod (rd x12_1 x13_1) a0) (wrap64 (Int.tdiv (rd x12_1 x13_1) a0)) x16_2 (wrap64 (x17_3 + 1))) else (if x12_3.length < 17592186044416 then (imageeditorref24_reached.l2 kj22 a0 a1 l3 a4 (x11_3.set ((ji31) : Int).toNat true) (x12_3 ++ [ji31]) x13_1 (Int.tmod (rd x12_1 x13_1) a0) (wrap64 (Int.tdiv (rd x12_1 x13_1) a0)) x16_2 (wrap64 (x17_3 + 1))) else (none))) else (none)) = some r := by rw [if_pos rfl] at H; exact H
                      clear H
                      have H := H1
                      clear H1
                      by_cases c36 : (ji31) < (x11_3.length : Int)
                      ·rw [if_pos c36] at H
                       have c36b0 : decide ((ji31) < (x11_3.length : Int)) = true := decide_eq_true c36
                       clear c36
                       obtain ⟨bq37, hbq37⟩ : ∃ b_ : Bool, b_ = (rdOf false x11_3 (ji31)) := ⟨_, rfl⟩
                       replace H : (if (bq37 = true) then (imageeditorref24_reached.l2 kj22 a0 a1 l3 a4 x11_3 x12_3 x13_1 (Int.tmod (rd x12_1 x13_1) a0) (wrap64 (Int.tdiv (rd x12_1 x13_1) a0)) x16_2 (wrap64 (x17_3 + 1))) else (if x12_3.length < 17592186044416 then (imageeditorref24_reached.l2 kj22 a0 a1 l3 a4 (x11_3.set ((ji31) : Int).toNat true) (x12_3 ++ [ji31]) x13_1 (Int.tmod (rd x12_1 x13_1) a0) (wrap64 (Int.tdiv (rd x12_1 x13_1) a0)) x16_2 (wrap64 (x17_3 + 1))) else (none))) = some r := by rw [← hbq37] at H; exact H
                       have Nbq37 := Aside0.mk hbq37
                       clear hbq37
                       by_cases c38 : (bq37 = true)
                       ·subst c38
                        have H1 : (imageeditorref24_reached.l2 kj22 a0 a1 l3 a4 x11_3 x12_3 x13_1 (Int.tmod (rd x12_1 x13_1) a0) (wrap64 (Int.tdiv (rd x12_1 x13_1) a0)) x16_2 (wrap64 (x17_3 + 1))) = some r := by rw [if_pos rfl] at H; exact H
                        clear H
                        have H := H1
                        clear H1
                        have H' := Aside0.mk H
                        clear H
                        have p233 : 0 ≤ ((ji31) : Int) := of_decide_eq_true (by first | (with_reducible assumption) | assumption)
                        have q233 : (ji31) < (l3.length : Int) := of_decide_eq_true (by first | (with_reducible assumption) | assumption)
                        obtain ⟨ad233, e233, hx233_0⟩ := Kd.at_bool HR3.out (ji31) p233 q233
                        (try rw [← Nbq34.out] at hx233_0)
                        (try rw [← Nbq37.out] at hx233_0)
                        cases e233
                        replace hx233_0 := (HB.out.cell (World.block_lt_of_cell? w _ hx233_0)).trans hx233_0
                        replace p233 := eq_true p233
                        replace q233 := eq_true q233
                        have p234 : 0 ≤ ((ji31) : Int) := of_decide_eq_true (by first | (with_reducible assumption) | assumption)
                        have q234 : (ji31) < (x11_3.length : Int) := of_decide_eq_true (by first | (with_reducible assumption) | assumption)
                        obtain ⟨ad234, e234, hx234_0⟩ := Kd.at_bool (Kd.R_reads' HO_11.out).2.2 (ji31) p234 q234
                        (try rw [← Nbq34.out] at hx234_0)
                        (try rw [← Nbq37.out] at hx234_0)
                        obtain rfl : (⟨go10, 0, none⟩ : Addr) = ad234 := (by injection e234)
                        (first | simp only [add_plain] at hx234_0 | simp only [add_at] at hx234_0 | simp only [Addr.add, Nat.zero_add] at hx234_0 | skip)
                        replace p234 := eq_true p234
                        replace q234 := eq_true q234
                        go_wp2
                        repeat (go_quiet (fail); try go_wp2)
                        (try simp only [← hl11_3])
                        first | go_roundg kj22 | ((try subst hji31); go_roundg kj22)
                        case measure => have := HK1.out; have := HK2.out; have := HK3.out; have := HJ22.out; omega
                        case rel => first | (exact ⟨(x11_3), (x12_3), (wrap64 (x17_3 + 1)), (by first | rfl | (simp; done) | (simp [*]; done)), H', ⟨by have := HK1.out; have := HK2.out; have := HK3.out; have := HJ22.out; omega⟩, ⟨by (try simp only [hl11_1]); (try simp only [hl11_2]); (try simp only [hl11_3]); exact zr0 HO_11⟩, ⟨by (try simp only [hl11_1]); (try simp only [hl11_2]); (try simp only [hl11_3]); exact zr0 HO_12⟩, ⟨by exact zb0 HB⟩⟩) | (exact ⟨(x11_3), (x12_3), (wrap64 (x17_3 + 1)), (by first | rfl | (simp; done) | (simp [*]; done)), H', ⟨by have := HK1.out; have := HK2.out; have := HK3.out; have := HJ22.out; omega⟩, ⟨by (try simp only [hl11_1]); (try simp only [hl11_2]); (try simp only [hl11_3]); exact zr0 HO_11⟩, ⟨by (try simp only [hl11_1]); (try simp only [hl11_2]); (try simp only [hl11_3]); exact zr0 HO_12⟩, ⟨by exact zb0 HB⟩⟩)
                       ·replace c38 := Bool.eq_false_iff.mpr c38
                        subst c38
                        have H1 : (if x12_3.length < 17592186044416 then (imageeditorref24_reached.l2 kj22 a0 a1 l3 a4 (x11_3.set ((ji31) : Int).toNat true) (x12_3 ++ [ji31]) x13_1 (Int.tmod (rd x12_1 x13_1) a0) (wrap64 (Int.tdiv (rd x12_1 x13_1) a0)) x16_2 (wrap64 (x17_3 + 1))) else (none)) = some r := by rw [if_neg (show ¬ (false = true) by decide)] at H; exact H
                        clear H
                        have H := H1
                        clear H1
                        obtain ⟨y235, hy235⟩ : ∃ y_ : List Bool, y_ = (x11_3.set ((ji31) : Int).toNat true) := ⟨_, rfl⟩
                        replace H : (if x12_3.length < 17592186044416 then (imageeditorref24_reached.l2 kj22 a0 a1 l3 a4 y235 (x12_3 ++ [ji31]) x13_1 (Int.tmod (rd x12_1 x13_1) a0) (wrap64 (Int.tdiv (rd x12_1 x13_1) a0)) x16_2 (wrap64 (x17_3 + 1))) else (none)) = some r := by first | (rw [hy235]; with_reducible exact H) | (have H2_ := (Option.bind_some _ _).symm.trans H; rw [hy235]; with_reducible exact H2_) | (have H2_ := (Option.bind_some _ _).symm.trans H; with_reducible exact H2_) | with_reducible exact H | (rw [hy235]; exact H) | exact H
                        have Ny235 := Aside0.mk hy235
                        clear hy235
                        by_cases c40 : x12_3.length < 17592186044416
                        ·rw [if_pos c40] at H
                         have LMc40 := Aside0.mk c40
                         clear c40
                         obtain ⟨y236, hy236⟩ : ∃ y_ : List Int, y_ = (x12_3 ++ [ji31]) := ⟨_, rfl⟩
                         replace H : (imageeditorref24_reached.l2 kj22 a0 a1 l3 a4 y235 y236 x13_1 (Int.tmod (rd x12_1 x13_1) a0) (wrap64 (Int.tdiv (rd x12_1 x13_1) a0)) x16_2 (wrap64 (x17_3 + 1))) = some r := by first | (rw [hy236]; with_reducible exact H) | (have H2_ := (Option.bind_some _ _).symm.trans H; rw [hy236]; with_reducible exact H2_) | (have H2_ := (Option.bind_some _ _).symm.trans H; with_reducible exact H2_) | with_reducible exact H | (rw [hy236]; exact H) | exact H
                         have Ny236 := Aside0.mk hy236
                         clear hy236
                         have H' := Aside0.mk H
                         clear H
                         have p233 : 0 ≤ ((ji31) : Int) := of_decide_eq_true (by first | (with_reducible assumption) | assumption)
                         have q233 : (ji31) < (l3.length : Int) := of_decide_eq_true (by first | (with_reducible assumption) | assumption)
                         obtain ⟨ad233, e233, hx233_0⟩ := Kd.at_bool HR3.out (ji31) p233 q233
                         (try rw [← Nbq34.out] at hx233_0)
                         (try rw [← Nbq37.out] at hx233_0)
                         cases e233
                         replace hx233_0 := (HB.out.cell (World.block_lt_of_cell? w _ hx233_0)).trans hx233_0
                         replace p233 := eq_true p233
                         replace q233 := eq_true q233
                         have p234 : 0 ≤ ((ji31) : Int) := of_decide_eq_true (by first | (with_reducible assumption) | assumption)
                         have q234 : (ji31) < (x11_3.length : Int) := of_decide_eq_true (by first | (with_reducible assumption) | assumption)
                         obtain ⟨ad234, e234, hx234_0⟩ := Kd.at_bool (Kd.R_reads' HO_11.out).2.2 (ji31) p234 q234
                         (try rw [← Nbq34.out] at hx234_0)
                         (try rw [← Nbq37.out] at hx234_0)
                         obtain rfl : (⟨go10, 0, none⟩ : Addr) = ad234 := (by injection e234)
                         (first | simp only [add_plain] at hx234_0 | simp only [add_at] at hx234_0 | simp only [Addr.add, Nat.zero_add] at hx234_0 | skip)
                         replace p234 := eq_true p234
                         replace q234 := eq_true q234
                         have p39 : 0 ≤ ((ji31) : Int) := of_decide_eq_true (by first | (with_reducible assumption) | assumption)
                         have q39 : ((ji31) : Int) < ((x11_3.length : Int) : Int) := of_decide_eq_true (by first | (with_reducible assumption) | assumption)
                         obtain ⟨hx39_0, hf39_0⟩ := Kd.R_celln false HO_11.out ((ji31) : Int) p39 q39
                         replace p39 := eq_true p39
                         replace q39 := eq_true q39
                         have HP41 := Kd.R_putg HO_11.out ((ji31) : Int) true
                         go_wp2_with (first | ((with_reducible refine gate_store (t := 4) (p := 113) rfl ?_); (try (rw [drewN_self wc]; generalize hq_ : World.drewN wc _ = wc; have n0_ := Aside0.mk (Kd.R_at hq_ HO_11.out); have n1_ := Aside0.mk (Kd.R_at hq_ HO_12.out); have n2_ := Aside0.mk (below_at hq_ HB.out); clear hq_ HO_11 HO_12 HB; have HO_11 := n0_; have HO_12 := n1_; have HB := n2_; clear n0_ n1_ n2_; (try (have HP41 := Kd.R_putg HO_11.out ((ji31) : Int) true)))); refine store_event (t := 4) (p := 113) (v := ?vo_w42) (w1 := (wc.setCell ⟨go10, ((ji31) : Int).toNat, none⟩ (.bool true))) ?hg ?ho ?hn ?hr ?_; (case ho => rfl); (case hg => rfl); (case hn => rfl); (case hr => first | (go_simp; done) | (go_simp; rfl)); intro w42 hw; have hg : wc.grownBy w42 (some go10) := (by rw [hw]; exact HP41.2); have hp_ : Kd.R Kd.bool 4 w42 w.heap.size (fun _ => True) (.slice (some ⟨go10, 0, none⟩) x11_3.length co10) y235 := (by rw [hw, Ny235.out]; exact HP41.1); clear HP41; have n0_ := Aside0.mk (hp_); have n1_ := Aside0.mk (Kd.R_over' (v := (.slice (some ⟨go10, 0, none⟩) x11_3.length co10)) (by exact zr0 HO_12) (Kd.R_typed HO_11.out) (by decide) hg); have n2_ := Aside0.mk ((by rw [hw]; exact below_set (HB.out) GB10.out : Below w.heap.size w w42)); clear HO_11; clear HO_12; clear HB; have HO_11 := n0_; have HO_12 := n1_; have HB := n2_; clear n0_ n1_ n2_; clear hg hw hp_) | ((with_reducible refine gate_builtin (b := .append) (xs := #[.tmp 114, .tmp 120]) rfl ?_); at_builtin; refine Kd.R_append (Kd.int .i64) (w0 := w) w.heap.size rfl (.tmp 114) (.tmp 120) 27 3 (.int .i64 0) 8 rfl Try.underlying27 info3 rfl (by decide) (by omega) u12 x12_3 ji31 [.int .i64 ji31] (fun _ => True) (fun _ => False) rfl rfl ?aP (fun _ hk => hk.elim) ?aF ?aO ?aB ?aS ?aL ?_; (case aP => exact rfl); (case aB => exact (by exact zb0 HB)); (case aF => exact (fun _ _ => trivial)); (case aO => exact (by exact zr0 HO_12)); (case aS => exact (below_size (by exact zb0 HB))); (case aL => have := LMc40.out; omega); intro v237 w43 ho hb hg hat; rw [← Ny236.out] at ho; have n0_ := Aside0.mk (Kd.R_over' (by exact zr0 HO_11) (Kd.R_typed (by exact zr0 HO_12)) (by decide) hg); have n1_ := Aside0.mk (hb); have n2_ := Aside0.mk (ho); clear HO_11; clear HB; clear HO_12; have HO_11 := n0_; have HB := n1_; have HO238 := n2_; clear n0_ n1_ n2_; clear ho hb hg hat))
                         repeat (go_quiet (first | ((with_reducible refine gate_store (t := 4) (p := 113) rfl ?_); (try (rw [drewN_self wc]; generalize hq_ : World.drewN wc _ = wc; have n0_ := Aside0.mk (Kd.R_at hq_ HO_11.out); have n1_ := Aside0.mk (Kd.R_at hq_ HO_12.out); have n2_ := Aside0.mk (below_at hq_ HB.out); clear hq_ HO_11 HO_12 HB; have HO_11 := n0_; have HO_12 := n1_; have HB := n2_; clear n0_ n1_ n2_; (try (have HP41 := Kd.R_putg HO_11.out ((ji31) : Int) true)))); refine store_event (t := 4) (p := 113) (v := ?vo_w42) (w1 := (wc.setCell ⟨go10, ((ji31) : Int).toNat, none⟩ (.bool true))) ?hg ?ho ?hn ?hr ?_; (case ho => rfl); (case hg => rfl); (case hn => rfl); (case hr => first | (go_simp; done) | (go_simp; rfl)); intro w42 hw; have hg : wc.grownBy w42 (some go10) := (by rw [hw]; exact HP41.2); have hp_ : Kd.R Kd.bool 4 w42 w.heap.size (fun _ => True) (.slice (some ⟨go10, 0, none⟩) x11_3.length co10) y235 := (by rw [hw, Ny235.out]; exact HP41.1); clear HP41; have n0_ := Aside0.mk (hp_); have n1_ := Aside0.mk (Kd.R_over' (v := (.slice (some ⟨go10, 0, none⟩) x11_3.length co10)) (by exact zr0 HO_12) (Kd.R_typed HO_11.out) (by decide) hg); have n2_ := Aside0.mk ((by rw [hw]; exact below_set (HB.out) GB10.out : Below w.heap.size w w42)); clear HO_11; clear HO_12; clear HB; have HO_11 := n0_; have HO_12 := n1_; have HB := n2_; clear n0_ n1_ n2_; clear hg hw hp_) | ((with_reducible refine gate_builtin (b := .append) (xs := #[.tmp 114, .tmp 120]) rfl ?_); at_builtin; refine Kd.R_append (Kd.int .i64) (w0 := w) w.heap.size rfl (.tmp 114) (.tmp 120) 27 3 (.int .i64 0) 8 rfl Try.underlying27 info3 rfl (by decide) (by omega) u12 x12_3 ji31 [.int .i64 ji31] (fun _ => True) (fun _ => False) rfl rfl ?aP (fun _ hk => hk.elim) ?aF ?aO ?aB ?aS ?aL ?_; (case aP => exact rfl); (case aB => exact (by exact zb0 HB)); (case aF => exact (fun _ _ => trivial)); (case aO => exact (by exact zr0 HO_12)); (case aS => exact (below_size (by exact zb0 HB))); (case aL => have := LMc40.out; omega); intro v237 w43 ho hb hg hat; rw [← Ny236.out] at ho; have n0_ := Aside0.mk (Kd.R_over' (by exact zr0 HO_11) (Kd.R_typed (by exact zr0 HO_12)) (by decide) hg); have n1_ := Aside0.mk (hb); have n2_ := Aside0.mk (ho); clear HO_11; clear HB; clear HO_12; have HO_11 := n0_; have HB := n1_; have HO238 := n2_; clear n0_ n1_ n2_; clear ho hb hg hat)); try go_wp2_with (first | ((with_reducible refine gate_store (t := 4) (p := 113) rfl ?_); (try (rw [drewN_self wc]; generalize hq_ : World.drewN wc _ = wc; have n0_ := Aside0.mk (Kd.R_at hq_ HO_11.out); have n1_ := Aside0.mk (Kd.R_at hq_ HO_12.out); have n2_ := Aside0.mk (below_at hq_ HB.out); clear hq_ HO_11 HO_12 HB; have HO_11 := n0_; have HO_12 := n1_; have HB := n2_; clear n0_ n1_ n2_; (try (have HP41 := Kd.R_putg HO_11.out ((ji31) : Int) true)))); refine store_event (t := 4) (p := 113) (v := ?vo_w42) (w1 := (wc.setCell ⟨go10, ((ji31) : Int).toNat, none⟩ (.bool true))) ?hg ?ho ?hn ?hr ?_; (case ho => rfl); (case hg => rfl); (case hn => rfl); (case hr => first | (go_simp; done) | (go_simp; rfl)); intro w42 hw; have hg : wc.grownBy w42 (some go10) := (by rw [hw]; exact HP41.2); have hp_ : Kd.R Kd.bool 4 w42 w.heap.size (fun _ => True) (.slice (some ⟨go10, 0, none⟩) x11_3.length co10) y235 := (by rw [hw, Ny235.out]; exact HP41.1); clear HP41; have n0_ := Aside0.mk (hp_); have n1_ := Aside0.mk (Kd.R_over' (v := (.slice (some ⟨go10, 0, none⟩) x11_3.length co10)) (by exact zr0 HO_12) (Kd.R_typed HO_11.out) (by decide) hg); have n2_ := Aside0.mk ((by rw [hw]; exact below_set (HB.out) GB10.out : Below w.heap.size w w42)); clear HO_11; clear HO_12; clear HB; have HO_11 := n0_; have HO_12 := n1_; have HB := n2_; clear n0_ n1_ n2_; clear hg hw hp_) | ((with_reducible refine gate_builtin (b := .append) (xs := #[.tmp 114, .tmp 120]) rfl ?_); at_builtin; refine Kd.R_append (Kd.int .i64) (w0 := w) w.heap.size rfl (.tmp 114) (.tmp 120) 27 3 (.int .i64 0) 8 rfl Try.underlying27 info3 rfl (by decide) (by omega) u12 x12_3 ji31 [.int .i64 ji31] (fun _ => True) (fun _ => False) rfl rfl ?aP (fun _ hk => hk.elim) ?aF ?aO ?aB ?aS ?aL ?_; (case aP => exact rfl); (case aB => exact (by exact zb0 HB)); (case aF => exact (fun _ _ => trivial)); (case aO => exact (by exact zr0 HO_12)); (case aS => exact (below_size (by exact zb0 HB))); (case aL => have := LMc40.out; omega); intro v237 w43 ho hb hg hat; rw [← Ny236.out] at ho; have n0_ := Aside0.mk (Kd.R_over' (by exact zr0 HO_11) (Kd.R_typed (by exact zr0 HO_12)) (by decide) hg); have n1_ := Aside0.mk (hb); have n2_ := Aside0.mk (ho); clear HO_11; clear HB; clear HO_12; have HO_11 := n0_; have HB := n1_; have HO238 := n2_; clear n0_ n1_ n2_; clear ho hb hg hat)))
                         (try simp only [← hl11_3])
                         first | go_roundg kj22 | ((try subst hji31); go_roundg kj22)
                         case measure => have := HK1.out; have := HK2.out; have := HK3.out; have := HJ22.out; omega
                         case rel => first | (exact ⟨(y235), (y236), (wrap64 (x17_3 + 1)), (by first | rfl | (simp; done) | (simp [*]; done)), H', ⟨by have := HK1.out; have := HK2.out; have := HK3.out; have := HJ22.out; omega⟩, ⟨by (try simp only [hl11_1]); (try simp only [hl11_2]); (try simp only [hl11_3]); exact zr0 HO_11⟩, ⟨by (try simp only [hl11_1]); (try simp only [hl11_2]); (try simp only [hl11_3]); exact zr0 HO238⟩, ⟨by exact zb0 HB⟩⟩) | (exact ⟨(y235), (y236), (wrap64 (x17_3 + 1)), (by first | rfl | (simp; done) | (simp [*]; done)), H', ⟨by have := HK1.out; have := HK2.out; have := HK3.out; have := HJ22.out; omega⟩, ⟨by (try simp only [hl11_1]); (try simp only [hl11_2]); (try simp only [hl11_3]); exact zr0 HO_11⟩, ⟨by (try simp only [hl11_1]); (try simp only [hl11_2]); (try simp only [hl11_3]); exact zr0 HO238⟩, ⟨by exact zb0 HB⟩⟩)
                        ·rw [if_neg c40] at H
                         exact absurd H (by simp)
                      ·rw [if_neg c36] at H
                       exact absurd H (by simp)
                     ·replace c35 := Bool.eq_false_iff.mpr c35
                      subst c35
                      have H1 : (imageeditorref24_reached.l2 kj22 a0 a1 l3 a4 x11_3 x12_3 x13_1 (Int.tmod (rd x12_1 x13_1) a0) (wrap64 (Int.tdiv (rd x12_1 x13_1) a0)) x16_2 (wrap64 (x17_3 + 1))) = some r := by rw [if_neg (show ¬ (false = true) by decide)] at H; exact H
                      clear H
                      have H := H1
                      clear H1
                      have H' := Aside0.mk H
                      clear H
                      have p233 : 0 ≤ ((ji31) : Int) := of_decide_eq_true (by first | (with_reducible assumption) | assumption)
                      have q233 : (ji31) < (l3.length : Int) := of_decide_eq_true (by first | (with_reducible assumption) | assumption)
                      obtain ⟨ad233, e233, hx233_0⟩ := Kd.at_bool HR3.out (ji31) p233 q233
                      (try rw [← Nbq34.out] at hx233_0)
                      cases e233
                      replace hx233_0 := (HB.out.cell (World.block_lt_of_cell? w _ hx233_0)).trans hx233_0
                      replace p233 := eq_true p233
                      replace q233 := eq_true q233
                      go_wp2
                      repeat (go_quiet (fail); try go_wp2)
                      (try simp only [← hl11_3])
                      first | go_roundg kj22 | ((try subst hji31); go_roundg kj22)
                      case measure => have := HK1.out; have := HK2.out; have := HK3.out; have := HJ22.out; omega
                      case rel => first | (exact ⟨(x11_3), (x12_3), (wrap64 (x17_3 + 1)), (by first | rfl | (simp; done) | (simp [*]; done)), H', ⟨by have := HK1.out; have := HK2.out; have := HK3.out; have := HJ22.out; omega⟩, ⟨by (try simp only [hl11_1]); (try simp only [hl11_2]); (try simp only [hl11_3]); exact zr0 HO_11⟩, ⟨by (try simp only [hl11_1]); (try simp only [hl11_2]); (try simp only [hl11_3]); exact zr0 HO_12⟩, ⟨by exact zb0 HB⟩⟩) | (exact ⟨(x11_3), (x12_3), (wrap64 (x17_3 + 1)), (by first | rfl | (simp; done) | (simp [*]; done)), H', ⟨by have := HK1.out; have := HK2.out; have := HK3.out; have := HJ22.out; omega⟩, ⟨by (try simp only [hl11_1]); (try simp only [hl11_2]); (try simp only [hl11_3]); exact zr0 HO_11⟩, ⟨by (try simp only [hl11_1]); (try simp only [hl11_2]); (try simp only [hl11_3]); exact zr0 HO_12⟩, ⟨by exact zb0 HB⟩⟩)
                    ·rw [if_neg c33] at H
                     exact absurd H (by simp)
                   ·rw [if_neg c32] at H
                    exact absurd H (by simp)
               ·rw [if_neg c22] at H
                have c22b0 : decide (x17_3 ≤ 1) = false := decide_eq_false c22
                clear c22
                have H' := Aside0.mk H
                clear H
                go_wp2
                repeat (go_quiet (fail); try go_wp2)
                (try simp only [← hl11_2, ← hl11_3])
                go_roundg k3
                case measure => have := HK1.out; have := HK2.out; have := HK3.out; omega
                case rel => exact ⟨(x11_3), (x12_3), (wrap64 (x16_2 + 1)), (by first | rfl | (simp; done) | (simp [*]; done)), H', ⟨by have := HK1.out; have := HK2.out; have := HK3.out; omega⟩, ⟨by (try simp only [hl11_1]); (try simp only [hl11_2]); (try simp only [hl11_3]); exact zr0 HO_11⟩, ⟨by (try simp only [hl11_1]); (try simp only [hl11_2]); (try simp only [hl11_3]); exact zr0 HO_12⟩, ⟨by exact zb0 HB⟩⟩
            ·rw [if_neg c21] at H
             have c21b0 : decide (x16_2 ≤ 1) = false := decide_eq_false c21
             clear c21
             have H' := Aside0.mk H
             clear H
             go_wp2
             repeat (go_quiet (fail); try go_wp2)
             (try simp only [← hl11_1, ← hl11_2])
             go_roundg k2
             case measure => have := HK1.out; have := HK2.out; omega
             case rel => exact ⟨(x11_2), (x12_2), (wrap64 (x13_1 + 1)), (by first | rfl | (simp; done) | (simp [*]; done)), H', ⟨by have := HK1.out; have := HK2.out; omega⟩, ⟨by (try simp only [hl11_1]); (try simp only [hl11_2]); exact zr0 HO_11⟩, ⟨by (try simp only [hl11_1]); (try simp only [hl11_2]); exact zr0 HO_12⟩, ⟨by exact zb0 HB⟩⟩
        ·rw [if_neg c18] at H
         exact absurd H (by simp)
       ·rw [if_neg c17] at H
        have c17b0 : decide (x13_1 < (x12_1.length : Int)) = false := decide_eq_false c17
        clear c17
        obtain rfl := Option.some.inj H
        obtain ⟨Ao44, co44, eo44⟩ := Kd.R_slice HO_12.out
        subst eo44
        go_wp2
        repeat (go_quiet (fail); try go_wp2)
        go_ret
        exact ⟨_, by first | rfl | (simp [errW_none, errW_some] <;> rfl) | (simp [*, errW_none, errW_some] <;> rfl), by exact zr0 HO_11, by exact zb0 HB⟩
    ·rw [if_neg c9] at H
     exact absurd H (by simp)
   ·rw [if_neg c8] at H
    exact absurd H (by simp)
  ·rw [if_neg c7] at H
   exact absurd H (by simp)
 ·rw [if_neg c6] at H
  exact absurd H (by simp)

end Go.Proofs.Ytmmncannibnklaa.G
