/- Contracts of functions of the program, each as it is called: what it computes (.f), that it computes no less with more rounds (.mono), and that a call returns just that (.calls). No conditions but those that each contract names. Written by a program of this session (wip/gx.py over the kit's print). -/
import Derived.Test.YtnfbabmceddciaaG0
import Derived.Test.YtnfbabmceddciaaG8
import Derived.Test.YtnfbabmceddciaaG9
import Derived.Test.YtnfbabmceddciaaG25
namespace Go.Proofs.Ytnfbabmceddciaa.G
open Go.RowKit Go.Proofs.YtnfbabmceddciaaW.PrintWords Go.Proofs.YtnfbabmceddciaaW.PrintLast Go.Proofs.YtnfbabmceddciaaW.PrintMore
attribute [local go_sem] max2_int min2_int max_two min_two max_three min_three max_four min_four max_five min_five   -- for this text's walks alone
set_option linter.unusedVariables false
set_option linter.unusedSimpArgs false


/-! ### raster_New_1: function 63 -/
def raster_New_1.f (a0 : Int) (a1 : Int) (a2_0 : Int) (a2_1 : Int) (a2_2 : Int) (a2_3 : Int) : Option (Int × Int × Int × Int) := some (a2_0, a2_1, a2_2, a2_3)
set_option maxHeartbeats 8000000 in
set_option maxRecDepth 100000 in
theorem raster_New_1.calls (a0 : Int) (a1 : Int) (E1 : Nat) (a2_0 : Int) (a2_1 : Int) (a2_2 : Int) (a2_3 : Int) (r1 : Int) (r2 : Int) (r3 : Int) (r4 : Int) (w : World) (hp2_0 : w.heap[E1]? = some (.cells #[.int .i64 a2_0, .int .i64 a2_1, .int .i64 a2_2, .int .i64 a2_3] 48 (0, 0))) (h : raster_New_1.f a0 a1 a2_0 a2_1 a2_2 a2_3 = some (r1, r2, r3, r4)) :
  Calls Try.prog 63 #[.int .i64 a0, .int .i64 a1, .pointer (some ⟨E1, 0, none⟩)] w fun e w' => e = .returned (.agg #[.int .i64 r1, .int .i64 r2, .int .i64 r3, .int .i64 r4]) ∧ Below w.heap.size w w' := by
 have hu48 := Try.underlying48
 have E0 := Aside0.mk hp2_0
 have GL840 := Aside0.mk (show E1 < w.heap.size from blk_lt hp2_0)
 clear hp2_0
 have HB := Aside0.mk (Below.refl w.heap.size w)
 have H : (some (a2_0, a2_1, a2_2, a2_3)) = some (r1, r2, r3, r4) := h
 clear h
 simp only [Option.some.injEq, Prod.mk.injEq] at H
 obtain ⟨rfl, rfl, rfl, rfl⟩ := H
 go_enter Try.func63, Try.ntmps63
 go_wp2_with (first | ((with_reducible refine gate_dst (N := 5) rfl ?_); refine box_event ?hg (N := 5) ?hd (cs := #[.int .i64 0, .int .i64 0, .int .i64 0, .int .i64 0]) (t := 48) ?hr ?_; (case hd => rfl); (case hg => rfl); (case hr => first | (go_simp; done) | (go_simp; rfl)); intro E3 hg w4 hbox hb; have E7 := zg HB hg; have E4 := zg HB hg; have E5 := zn E0 hg; have E6 := zn' E0 hg; have n0_ := Aside0.mk (hbox); replace E0 := zk E0 hb; replace HB := zb HB hb; have E2 := n0_; clear n0_; clear hb hbox hg; have E8 := E5.out; have E9 := E6.out; obtain ⟨G0, G1, G2, G3, G4, G5, G6, G7⟩ := zq4 E0; obtain ⟨G8, G9, V0, V1, V2, V3, V4, V5⟩ := zq4 E2))
 refine bodyPost_ret (results_cell_row rfl _ _ E3 48 #[.int .i64 a2_0, .int .i64 a2_1, .int .i64 a2_2, .int .i64 a2_3] (0, 0) _ rfl (by exact zp E2 rfl) Try.underlying48 rfl (by kernel_rfl)) rfl ?_
 exact ⟨by first | rfl | (simp [errW_none, errW_some] <;> rfl) | (simp [*, errW_none, errW_some] <;> rfl), by exact zbo HB E4⟩

/-! ### raster_fill__raster_New_1: function 60 -/
mutual
def raster_fill__raster_New_1.l0 : Nat → Int → Int → Int → Int → Int → Int → Int → Int → Int → List (S48) → Option (Int × Int × (List (S48)))
 | 0, _, _, _, _, _, _, _, _, _, _ => none
 | k + 1, x0, x17, x18, G2, G3, G4, G5, G6, G7, E7 => if x18 < x17 then (raster_fill__raster_New_1.l1 k x0 x18 x17 x18 x0 0 G2 G3 G4 G5 G6 G7 E7) else (some (G6, G7, E7))
def raster_fill__raster_New_1.l1 : Nat → Int → Int → Int → Int → Int → Int → Int → Int → Int → Int → Int → Int → List (S48) → Option (Int × Int × (List (S48)))
 | 0, _, _, _, _, _, _, _, _, _, _, _, _, _ => none
 | k + 1, x0, x8, x17, x18, x21, x22, G2, G3, G4, G5, G6, G7, E7 => if x22 < x21 then ((raster_New_1.f x22 x8 G2 G3 G4 G5).bind fun G8 => (if E7.length < 4398046511104 then (raster_fill__raster_New_1.l1 k x0 x8 x17 x18 x21 (wrap64 (x22 + 1)) G2 G3 G4 G5 G6 G7 (E7 ++ [(⟨G8.1, G8.2.1, G8.2.2.1, G8.2.2.2⟩ : S48)])) else (none))) else (raster_fill__raster_New_1.l0 k x0 x17 (wrap64 (x18 + 1)) G2 G3 G4 G5 G6 G7 E7)
end
def raster_fill__raster_New_1.f (k : Nat) (a0 : Int) (a1 : Int) (a2_0 : Int) (a2_1 : Int) (a2_2 : Int) (a2_3 : Int) : Option (Int × Int × (List (S48))) := if 0 ≤ (wrap64 (a0 * a1)) then (if (wrap64 (a0 * a1) : Int).toNat ≤ 8796093022208 then (raster_fill__raster_New_1.l0 k a0 a1 0 a2_0 a2_1 a2_2 a2_3 a0 a1 (([] : List (S48)))) else (none)) else (none)
theorem raster_fill__raster_New_1.mono_l : ∀ k, (∀ y0 y1 y2 y3 y4 y5 y6 y7 y8 y9, LeO (raster_fill__raster_New_1.l0 k y0 y1 y2 y3 y4 y5 y6 y7 y8 y9) (raster_fill__raster_New_1.l0 (k + 1) y0 y1 y2 y3 y4 y5 y6 y7 y8 y9)) ∧ (∀ y0 y1 y2 y3 y4 y5 y6 y7 y8 y9 y10 y11 y12, LeO (raster_fill__raster_New_1.l1 k y0 y1 y2 y3 y4 y5 y6 y7 y8 y9 y10 y11 y12) (raster_fill__raster_New_1.l1 (k + 1) y0 y1 y2 y3 y4 y5 y6 y7 y8 y9 y10 y11 y12))
 | 0 => ⟨fun _ _ _ _ _ _ _ _ _ _ r h => by simp [raster_fill__raster_New_1.l0] at h, fun _ _ _ _ _ _ _ _ _ _ _ _ _ r h => by simp [raster_fill__raster_New_1.l1] at h⟩
 | k + 1 => by
  obtain ⟨ih0, ih1⟩ := raster_fill__raster_New_1.mono_l k
  refine ⟨?_, ?_⟩
  ·intro y0 y1 y2 y3 y4 y5 y6 y7 y8 y9
   unfold raster_fill__raster_New_1.l0
   repeat' first
   | (with_reducible exact ih0 _ _ _ _ _ _ _ _ _ _)
   | (with_reducible exact ih1 _ _ _ _ _ _ _ _ _ _ _ _ _)
   | (with_reducible exact LeO.refl _)
   | (with_reducible exact LeO.none _)
   | (with_reducible refine LeO.ite ?_ ?_)
   | (with_reducible refine LeO.bind ?_ (fun _ => ?_))
   | exact ih0 _ _ _ _ _ _ _ _ _ _
   | exact ih1 _ _ _ _ _ _ _ _ _ _ _ _ _
   | exact LeO.none _
   | refine LeO.ite ?_ ?_
   | refine LeO.bind ?_ (fun _ => ?_)
  ·intro y0 y1 y2 y3 y4 y5 y6 y7 y8 y9 y10 y11 y12
   unfold raster_fill__raster_New_1.l1
   repeat' first
   | (with_reducible exact ih0 _ _ _ _ _ _ _ _ _ _)
   | (with_reducible exact ih1 _ _ _ _ _ _ _ _ _ _ _ _ _)
   | (with_reducible exact LeO.refl _)
   | (with_reducible exact LeO.none _)
   | (with_reducible refine LeO.ite ?_ ?_)
   | (with_reducible refine LeO.bind ?_ (fun _ => ?_))
   | exact ih0 _ _ _ _ _ _ _ _ _ _
   | exact ih1 _ _ _ _ _ _ _ _ _ _ _ _ _
   | exact LeO.none _
   | refine LeO.ite ?_ ?_
   | refine LeO.bind ?_ (fun _ => ?_)
theorem raster_fill__raster_New_1.mono : ∀ a0 a1 a2 a3 a4 a5 k, LeO (raster_fill__raster_New_1.f k a0 a1 a2 a3 a4 a5) (raster_fill__raster_New_1.f (k + 1) a0 a1 a2 a3 a4 a5) := by
 intro a0 a1 a2 a3 a4 a5 k
 obtain ⟨ih0, ih1⟩ := raster_fill__raster_New_1.mono_l k
 unfold raster_fill__raster_New_1.f
 repeat' first
   | (with_reducible exact ih0 _ _ _ _ _ _ _ _ _ _)
   | (with_reducible exact ih1 _ _ _ _ _ _ _ _ _ _ _ _ _)
   | (with_reducible exact LeO.refl _)
   | (with_reducible exact LeO.none _)
   | (with_reducible refine LeO.ite ?_ ?_)
   | (with_reducible refine LeO.bind ?_ (fun _ => ?_))
   | exact ih0 _ _ _ _ _ _ _ _ _ _
   | exact ih1 _ _ _ _ _ _ _ _ _ _ _ _ _
   | exact LeO.none _
   | refine LeO.ite ?_ ?_
   | refine LeO.bind ?_ (fun _ => ?_)
def raster_fill__raster_New_1.T8 : Bool × List (List Nat × List Nat) := (true, [([], []), ([0], [0]), ([], []), ([], []), ([], []), ([2, 3, 4], [2, 3, 4]), ([5], [5]), ([1, 6, 5], [1, 6]), ([0, 1, 2, 3, 4, 5, 6, 7], []), ([8, 7, 7, 0, 1, 2, 3, 4, 5, 6, 7], [7, 8])])
def raster_fill__raster_New_1.B8 : List Nat := [0, 1, 0, 0, 0, 28, 60, 127, 255, 511]
theorem raster_fill__raster_New_1.tab8 : rtab .any (opsOf Try.f60 8) = raster_fill__raster_New_1.T8 := by kernel_rfl
theorem raster_fill__raster_New_1.bits8 : waitsOk raster_fill__raster_New_1.T8.2 raster_fill__raster_New_1.B8 = true := by kernel_rfl
set_option maxHeartbeats 8000000 in
set_option maxRecDepth 100000 in
theorem raster_fill__raster_New_1.calls (k : Nat) (a0 : Int) (a1 : Int) (E4 : Nat) (a2_0 : Int) (a2_1 : Int) (a2_2 : Int) (a2_3 : Int) (r1 : Int) (r2 : Int) (r3 : List (S48)) (w : World) (hp2_0 : w.heap[E4]? = some (.cells #[.int .i64 a2_0, .int .i64 a2_1, .int .i64 a2_2, .int .i64 a2_3] 48 (0, 0))) (h : raster_fill__raster_New_1.f k a0 a1 a2_0 a2_1 a2_2 a2_3 = some (r1, r2, r3)) :
  Calls Try.prog 60 #[.int .i64 a0, .int .i64 a1, .func (.func 63) #[] #[.pointer (some ⟨E4, 0, none⟩)]] w fun e w' => ∃ v2_ : Value, e = .returned (.agg #[.int .i64 r1, .int .i64 r2, v2_]) ∧ Kd.R k48 48 w' w.heap.size (fun _ => True) v2_ r3 ∧ Below w.heap.size w w' := by
 have hu40 := Try.underlying40
 have E1 := Aside0.mk hp2_0
 have GL842 := Aside0.mk (show E4 < w.heap.size from blk_lt hp2_0)
 clear hp2_0
 have HB := Aside0.mk (Below.refl w.heap.size w)
 have H : (if 0 ≤ (wrap64 (a0 * a1)) then (if (wrap64 (a0 * a1) : Int).toNat ≤ 8796093022208 then (raster_fill__raster_New_1.l0 k a0 a1 0 a2_0 a2_1 a2_2 a2_3 a0 a1 (([] : List (S48)))) else (none)) else (none)) = some (r1, r2, r3) := h
 clear h
 obtain ⟨E5, E8⟩ : ∃ j_ : Int, (wrap64 (a0 * a1)) = j_ := ⟨_, rfl⟩
 replace H : (if 0 ≤ (E5) then (if (E5 : Int).toNat ≤ 8796093022208 then (raster_fill__raster_New_1.l0 k a0 a1 0 a2_0 a2_1 a2_2 a2_3 a0 a1 (([] : List (S48)))) else (none)) else (none)) = some (r1, r2, r3) := by first | (rw [E8] at H; exact H) | (simp only [E8] at H ⊢; exact H)
 have Y7 : (IntKind.i64.wrap (a0 * a1)) = E5 := (i64_w _).trans E8
 by_cases c5 : 0 ≤ (E5)
 rotate_left
 ·rw [if_neg c5] at H
  exact absurd H (by simp)

 rw [if_pos c5] at H
 have V2 := eq_true c5
 have V3 : decide (0 ≤ (E5)) = true := decide_eq_true c5
 clear c5
 by_cases c6 : (E5 : Int).toNat ≤ 8796093022208
 rotate_left
 ·rw [if_neg c6] at H
  exact absurd H (by simp)
 rw [if_pos c6] at H
 have V4 := eq_true c6
 have V5 : decide ((E5 : Int).toNat ≤ 8796093022208) = true := decide_eq_true c6
 clear c6
 obtain ⟨y844, hy844⟩ : ∃ y_ : List (S48), y_ = (([] : List (S48))) := ⟨_, rfl⟩
 replace H : (raster_fill__raster_New_1.l0 k a0 a1 0 a2_0 a2_1 a2_2 a2_3 a0 a1 y844) = some (r1, r2, r3) := by first | (rw [hy844]; with_reducible exact H) | (have H2_ := (Option.bind_some _ _).symm.trans H; rw [hy844]; with_reducible exact H2_) | (have H2_ := (Option.bind_some _ _).symm.trans H; with_reducible exact H2_) | with_reducible exact H | (rw [hy844]; exact H) | exact H
 have Ny844 := Aside0.mk hy844
 clear hy844
 have H' := Aside0.mk H
 clear H
 go_enter Try.func60, Try.ntmps60
 go_wp2_with (first | ((with_reducible refine gate_dst (N := 6) rfl ?_); refine box_event ?hg (N := 6) ?hd (cs := #[.int .i64 0, .int .i64 0, .slice none 0 0]) (t := 40) ?hr ?_; (case hd => rfl); (case hg => rfl); (case hr => first | (go_simp; done) | (go_simp; rfl)); intro E9 hg w7 hbox hb; have Y8 := zg HB hg; have Y3 := zg HB hg; have Y4 := zn E1 hg; have Y5 := zn' E1 hg; have n0_ := Aside0.mk (hbox); replace E1 := zk E1 hb; replace HB := zb HB hb; have E2 := n0_; clear n0_; clear hb hbox hg) | ((with_reducible refine gate_dst (N := 15) rfl ?_); refine Kd.R_make0 k48 _ 48 rfl (N := 15) rfl 38 _ _ rfl E5 rfl rfl Try.underlying38 (.agg #[(.int .i64 0), (.int .i64 0), (.int .i64 0), (.int .i64 0)]) 32 info48 rfl (by decide) (by omega) z48 (ok := fun _ => True) (okp := fun _ => True) (k48_mkM _ _ _ z48 ) (fun _ hk => hk) trivial (of_decide_eq_true (by first | (with_reducible assumption) | assumption)) (Nat.le_trans (Nat.mul_le_mul_right _ (of_decide_eq_true (by first | (with_reducible assumption) | assumption) : E5.toNat ≤ 8796093022208)) (by omega)) (Below.refl _ _) (Nat.le_refl _) ?_; intro v845 w8 ho9 hb hg_ hnew_; clear hg_ hnew_; (first | rw [← Ny844.out] at ho9 | (simp only [Int.reduceToNat] at ho9; rw [← Ny844.out] at ho9)); have n0_ := Aside0.mk (Kd.R_lower (Kd.R_newB ho9 (zk0 E1)) (below_size (by exact zb0 HB))); replace E1 := zk E1 hb; replace E2 := zk E2 hb; replace HB := zb HB hb; have HO846 := n0_; clear n0_; clear hb ho9; obtain ⟨Ao10, co10, eo10⟩ := Kd.R_slice HO846.out; subst eo10) | ((with_reducible refine gate_dst (N := 7) rfl ?_); refine box_event ?hg (N := 7) ?hd (cs := #[.int .i64 0, .int .i64 0, .slice none 0 0]) (t := 40) ?hr ?_; (case hd => rfl); (case hg => rfl); (case hr => first | (go_simp; done) | (go_simp; rfl)); intro E6 hg w11 hbox hb; have Y9 := zg HB hg; have G9 := zg HB hg; have G0 := zn E1 hg; have V0 := zn' E1 hg; have G1 := zn E2 hg; have V1 := zn' E2 hg; have n0_ := Aside0.mk (hbox); replace HO846 := zr HO846 hb; replace E1 := zk E1 hb; replace E2 := zk E2 hb; replace HB := zb HB hb; have E0 := n0_; clear n0_; clear hb hbox hg; have Z0 := V0.out; have Z1 := G0.out; have Z2 := V1.out; have Z3 := G1.out; obtain ⟨V6, V7, V8, V9, Y0, Y1⟩ := zq3 E0))
 (try simp only [Act.put, sA, sB, sC])
 go_loopg [18] k (fun kq v18 w' => ∃ (x18_1 : Int) (x848002_1 : List (S48)) (u848002 : Value), v18 = .int .i64 x18_1 ∧ Aside0 (raster_fill__raster_New_1.l0 kq a0 a1 x18_1 a2_0 a2_1 a2_2 a2_3 a0 a1 x848002_1 = some (r1, r2, r3)) ∧ Aside0 (kq ≤ k) ∧ Aside0 (Kd.R k48 48 w' w.heap.size (fun k_ => k_ ≠ E4) u848002 x848002_1) ∧ Aside0 (w'.heap[E4]? = some (.cells #[.int .i64 a2_0, .int .i64 a2_1, .int .i64 a2_2, .int .i64 a2_3] 48 (0, 0))) ∧ Aside0 (w'.heap[E9]? = some (.cells #[.int .i64 0, .int .i64 0, (.slice none 0 0)] 40 (0, 0))) ∧ Aside0 (w'.heap[E6]? = some (.cells #[.int .i64 a0, .int .i64 a1, u848002] 40 (0, 0))) ∧ Aside0 (Below w.heap.size w w'))
 case atStart => exact ⟨(0), (y844), (.slice Ao10 y844.length co10), (by first | rfl | (simp; done) | (simp [*]; done)), H', ⟨Nat.le_refl _⟩, ⟨by (with_reducible repeat (first | apply Kd.R_alloc | apply Kd.R_drewN | apply Kd.R_drew)); exact Kd.R_mono (Kd.R_far (p := ⟨E6, 2, none⟩) (Kd.R_far (p := ⟨E6, 1, none⟩) (Kd.R_far (p := ⟨E6, 0, none⟩) (Kd.R_types HO846.out E0.out (by decide)) (fun _ hk => hk.2) (.int .i64 a0)) (fun _ hk => hk.2) (.int .i64 a1)) (fun _ hk => hk.2) (.slice Ao10 y844.length co10)) (fun _ hk => hk.1.2)⟩, ⟨by exact zf E1 G0⟩, ⟨by exact zf E2 G1⟩, ⟨by exact zp E0 rfl⟩, ⟨by exact zbo HB G9⟩⟩
 case round =>
  clear H'
  try clear c1
  try clear c2
  try clear p2
  try clear q3
  try clear c5
  try clear V2
  try clear V3
  try clear c6
  try clear V4
  try clear V5
  try clear p6
  try clear c12
  try clear c13
  try clear V6
  try clear V7
  try clear V8
  try clear V9
  try clear Y0
  try clear Y1
  obtain ⟨x18_1, x848002_1, u848002, rfl, HA, HK1, E3, E1, E2, E0, HB⟩ := hrel
  cases gk with
  | zero => exact absurd HA.out (by simp [raster_fill__raster_New_1.l0])
  | succ k1 =>
   have H := HA.out
   clear HA
   simp only [raster_fill__raster_New_1.l0] at H
   by_cases c15 : x18_1 < a1
   rotate_left
   ·rw [if_neg c15] at H
    have Y2 : decide (x18_1 < a1) = false := decide_eq_false c15
    clear c15
    simp only [Option.some.injEq, Prod.mk.injEq] at H
    obtain ⟨rfl, rfl, rfl⟩ := H
    have Z4 := V0.out
    have Z5 := G0.out
    have Z6 := V1.out
    have Z7 := G1.out
    obtain ⟨Z8, Z9, J0, J1, J2, J3⟩ := zq3 E0
    have J4 := Y5.out
    have J5 := Y4.out
    obtain ⟨J6, J7, J8, J9, L0, L1⟩ := zq3 E2
    obtain ⟨Ao29, co29, eo29⟩ := Kd.R_slice E3.out
    subst eo29
    go_wp2
    refine bodyPost_ret (results_cell_row rfl _ _ E9 40 #[.int .i64 a0, .int .i64 a1, .slice Ao29 x848002_1.length co29] (0, 0) _ rfl (by exact zp E2 rfl) Try.underlying40 rfl (by kernel_rfl)) rfl ?_
    exact ⟨_, by first | rfl | (simp [errW_none, errW_some] <;> rfl) | (simp only [← E8]; first | rfl | (simp [errW_none, errW_some] <;> rfl)) | (simp [*, errW_none, errW_some] <;> rfl), by (with_reducible repeat (first | apply Kd.R_alloc | apply Kd.R_drewN | apply Kd.R_drew)); exact Kd.R_mono (Kd.R_far (p := ⟨E9, 2, none⟩) (Kd.R_far (p := ⟨E9, 1, none⟩) (Kd.R_far (p := ⟨E9, 0, none⟩) (Kd.R_types E3.out E2.out (by decide)) (fun _ hk => hk.2) (.int .i64 a0)) (fun _ hk => hk.2) (.int .i64 a1)) (fun _ hk => hk.2) (.slice Ao29 x848002_1.length co29)) (fun _ hk => trivial), by exact zbo HB Y3⟩
   rw [if_pos c15] at H
   have Y2 : decide (x18_1 < a1) = true := decide_eq_true c15
   clear c15
   have H' := Aside0.mk H
   clear H
   go_wp2
   go_loopg [22] k1 (fun kq v22 w' => ∃ (x22_2 : Int) (x848002_2 : List (S48)) (u848002 : Value), v22 = .int .i64 x22_2 ∧ Aside0 (raster_fill__raster_New_1.l1 kq a0 x18_1 a1 x18_1 a0 x22_2 a2_0 a2_1 a2_2 a2_3 a0 a1 x848002_2 = some (r1, r2, r3)) ∧ Aside0 (kq ≤ k1) ∧ Aside0 (Kd.R k48 48 w' w.heap.size (fun k_ => k_ ≠ E4) u848002 x848002_2) ∧ Aside0 (w'.heap[E4]? = some (.cells #[.int .i64 a2_0, .int .i64 a2_1, .int .i64 a2_2, .int .i64 a2_3] 48 (0, 0))) ∧ Aside0 (w'.heap[E9]? = some (.cells #[.int .i64 0, .int .i64 0, (.slice none 0 0)] 40 (0, 0))) ∧ Aside0 (w'.heap[E6]? = some (.cells #[.int .i64 a0, .int .i64 a1, u848002] 40 (0, 0))) ∧ Aside0 (Below w.heap.size w w'))
   case atStart => exact ⟨(0), (x848002_1), (u848002), (by first | rfl | (simp; done) | (simp [*]; done)), H', ⟨Nat.le_refl _⟩, ⟨by exact zr0 E3⟩, ⟨by exact zk0 E1⟩, ⟨by exact zk0 E2⟩, ⟨by exact zk0 E0⟩, ⟨by exact zb0 HB⟩⟩
   case round =>
    clear H'
    try clear c1
    try clear c2
    try clear p2
    try clear q3
    try clear c5
    try clear V2
    try clear V3
    try clear c6
    try clear V4
    try clear V5
    try clear p6
    try clear c12
    try clear c13
    try clear c15
    try clear Y2
    try clear V6
    try clear V7
    try clear V8
    try clear V9
    try clear Y0
    try clear Y1
    try clear p2
    try clear p6
    try clear q3
    obtain ⟨x22_2, x848002_2, u848002, rfl, HA, HK2, E3, E1, E2, E0, HB⟩ := hrel
    cases gk with
    | zero => exact absurd HA.out (by simp [raster_fill__raster_New_1.l1])
    | succ k2 =>
     have H := HA.out
     clear HA
     simp only [raster_fill__raster_New_1.l1] at H
     by_cases c16 : x22_2 < a0
     rotate_left
     ·rw [if_neg c16] at H
      have Y6 : decide (x22_2 < a0) = false := decide_eq_false c16
      clear c16
      have H' := Aside0.mk H
      clear H
      go_wp2
      first | go_roundg k2 | ((try subst E8); go_roundg k2)
      case measure => have := HK1.out; have := HK2.out; omega
      case rel => first | (exact ⟨(wrap64 (x18_1 + 1)), (x848002_2), (u848002), (by first | rfl | (simp; done) | (simp [*]; done)), H', ⟨by have := HK1.out; have := HK2.out; omega⟩, ⟨by exact zr0 E3⟩, ⟨by exact zk0 E1⟩, ⟨by exact zk0 E2⟩, ⟨by exact zk0 E0⟩, ⟨by exact zb0 HB⟩⟩) | (exact ⟨(wrap64 (x18_1 + 1)), (x848002_2), (u848002), (by first | rfl | (simp; done) | (simp [*]; done)), H', ⟨by have := HK1.out; have := HK2.out; omega⟩, ⟨by exact zr0 E3⟩, ⟨by exact zk0 E1⟩, ⟨by exact zk0 E2⟩, ⟨by exact zk0 E0⟩, ⟨by exact zb0 HB⟩⟩)
     rw [if_pos c16] at H
     have Y6 : decide (x22_2 < a0) = true := decide_eq_true c16
     clear c16
     replace H := Option.bind_eq_some_iff.mp H
     obtain ⟨⟨t848, t849, t850, t851⟩, A170, H⟩ := H
     try dsimp only at H
     have A17 := Aside0.mk A170
     clear A170
     by_cases c18 : x848002_2.length < 4398046511104
     rotate_left
     ·rw [if_neg c18] at H
      exact absurd H (by simp)
     rw [if_pos c18] at H
     have LMc18 := Aside0.mk c18
     clear c18
     obtain ⟨y852, hy852⟩ : ∃ y_ : List (S48), y_ = (x848002_2 ++ [(⟨t848, t849, t850, t851⟩ : S48)]) := ⟨_, rfl⟩
     replace H : (raster_fill__raster_New_1.l1 k2 a0 x18_1 a1 x18_1 a0 (wrap64 (x22_2 + 1)) a2_0 a2_1 a2_2 a2_3 a0 a1 y852) = some (r1, r2, r3) := by first | (rw [hy852]; with_reducible exact H) | (have H2_ := (Option.bind_some _ _).symm.trans H; rw [hy852]; with_reducible exact H2_) | (have H2_ := (Option.bind_some _ _).symm.trans H; with_reducible exact H2_) | with_reducible exact H | (rw [hy852]; exact H) | exact H
     have Ny852 := Aside0.mk hy852
     clear hy852
     have H' := Aside0.mk H
     clear H
     try go_wp2
     replace E3 := zrd E3
     replace E1 := zkd E1
     replace E2 := zkd E2
     replace E0 := zkd E0
     replace HB := zbd HB
     refine start_ (n := 10) (S := fun w' => w'.cell? ⟨E6, 0, none⟩ = some (.int .i64 a0) ∧ w'.cell? ⟨E6, 1, none⟩ = some (.int .i64 a1) ∧ w'.cell? ⟨E6, 2, none⟩ = some (u848002)) (ds := [9]) (bs 10 0) (by kernel_rfl) rfl rfl ⟨(blk_cell E0.out 0).trans rfl, (blk_cell E0.out 1).trans rfl, (blk_cell E0.out 2).trans rfl⟩ (fun hHeld => ?_); refine with_tabW raster_fill__raster_New_1.tab8 raster_fill__raster_New_1.bits8 (fun HT_ HW_ => ?_)
     generalize wr.drew = w19 at E3 E1 E2 E0 HB hHeld ⊢
     refine pure_ (i := 0) (N := some 25) (v := ?_) (a' := ?_) (bs 10 1) rfl rfl (any_of HT_.out (by kernel_rfl)) (fun _ _ _ h => h) (Or.inl ⟨by rfl, ?_⟩) ?_ ?_
     rotate_left
     ·intro w'
      go_simp
      with_reducible rfl
     rotate_left
     ·simp only [Act.put, sA, sB, sC, i64_w, i32_w]
      rfl
     refine pure_ (i := 2) (N := some 27) (v := ?_) (a' := ?_) (bs 10 5) rfl rfl (any_of HT_.out (by kernel_rfl)) (fun _ _ _ h => h) (Or.inl ⟨by rfl, ?_⟩) ?_ ?_
     rotate_left
     ·intro w'
      go_simp
      with_reducible rfl
     rotate_left
     ·simp only [Act.put, sA, sB, sC, i64_w, i32_w]
      rfl
     refine pure_ (i := 3) (N := some 28) (v := ?_) (a' := ?_) (bs 10 13) rfl rfl (any_of HT_.out (by kernel_rfl)) (fun _ _ _ h => h) (Or.inl ⟨by rfl, ?_⟩) ?_ ?_
     rotate_left
     ·intro w'
      go_simp
      with_reducible rfl
     rotate_left
     ·simp only [Act.put, sA, sB, sC, i64_w, i32_w]
      rfl
     refine pure_ (i := 4) (N := some 29) (v := ?_) (a' := ?_) (bs 10 29) rfl rfl (any_of HT_.out (by kernel_rfl)) (fun _ _ _ h => h) (Or.inl ⟨by rfl, ?_⟩) ?_ ?_
     rotate_left
     ·intro w'
      go_simp
      with_reducible rfl
     rotate_left
     ·simp only [Act.put, sA, sB, sC, i64_w, i32_w]
      rfl
     refine take_ (i := 1) (N := some 26) (v := ?_) (a' := ?_) (bs 10 31) rfl rfl (take_ofW HT_.out HW_.out (by kernel_rfl)) (fun _ _ _ h => h) (Or.inl ⟨by rfl, ?_⟩) hHeld ?_ ?_
     rotate_left
     ·rintro w' ⟨s0, s1, s2⟩
      go_simp
      with_reducible rfl
     rotate_left
     ·simp only [Act.put, sA, sB, sC, i64_w, i32_w]
      rfl
     refine one_ (i := 5) (N := some 30) (bs 10 63) rfl rfl (one_of HT_.out (by kernel_rfl)) (by decide) (fun K hK => ?_)
     refine goesT_ (t := 27) Try.func63 (by kernel_rfl) rfl #[.pointer (some ⟨E4, 0, none⟩)] #[.int .i64 x22_2, .int .i64 x18_1, .pointer (some ⟨E4, 0, none⟩)] (by rfl) rfl rfl (by first | rfl | (go_simp; done) | (go_simp; rfl)) (by (try simp only [List.map_toArray, List.map_cons, List.map_nil]); first | done | rfl | (go_simp; done) | (go_simp; rfl)) ?_
     with_reducible refine (raster_New_1.calls x22_2 x18_1 E4 a2_0 a2_1 a2_2 a2_3 t848 t849 t850 t851 _ ?side1 A17.out).mono ?_
     (case side1 => exact zk0 E1)
     rintro e w20 ⟨rfl, hb⟩
     refine ⟨_, rfl, ?_⟩
     replace E3 := zr E3 hb
     replace E1 := zk E1 hb
     replace E2 := zk E2 hb
     replace E0 := zk E0 hb
     replace HB := zb HB hb
     (try clear hb)
     (try clear hb2)
     (try clear hk)
     (try clear hi)
     refine hK.out _ _ ⟨(blk_cell E0.out 0).trans rfl, (blk_cell E0.out 1).trans rfl, (blk_cell E0.out 2).trans rfl⟩ (fun hHeld => ?_)
     clear hK K
     refine norm_ (a' := ?_) ?_ ?_
     rotate_left
     ·show Act.put _ (some 30) _ = _
      simp only [Act.put, sA, sB, sC, i64_w, i32_w]
      rfl
     refine one_ (i := 6) (N := some 31) (bs 10 127) rfl rfl (one_of HT_.out (by kernel_rfl)) (by decide) (fun K hK => ?_)
     refine value_ (w1 := ?_) (v := ?_) (by rfl) rfl ?_ ?_
     rotate_left 2
     ·go_simp
      constructor
      ·rfl
      ·rfl
     refine hK.out _ _ ⟨(blk_cell (blk_alloc E0.out _) 0).trans rfl, (blk_cell (blk_alloc E0.out _) 1).trans rfl, (blk_cell (blk_alloc E0.out _) 2).trans rfl⟩ (fun hHeld => ?_)
     clear hK K
     refine norm_ (a' := ?_) ?_ ?_
     rotate_left
     ·show Act.put _ (some 31) _ = _
      simp only [Act.put, sA, sB, sC, i64_w, i32_w]
      rfl
     refine one_ (i := 7) (N := some 32) (bs 10 255) rfl rfl (one_of HT_.out (by kernel_rfl)) (by decide) (fun K hK => ?_)
     refine Kd.R_append_step k48 (w0 := w) w.heap.size (by rfl) (.tmp 26) (.tmp 31) 38 48 (.agg #[(.int .i64 0), (.int .i64 0), (.int .i64 0), (.int .i64 0)]) 32 rfl Try.underlying38 info48 rfl (by decide) (by omega) u848002 x848002_2 (⟨t848, t849, t850, t851⟩ : S48) [.int .i64 t848, .int .i64 t849, .int .i64 t850, .int .i64 t851] (fun k_ => k_ ≠ E4) (fun _ => False) rfl rfl ?aP (fun _ hk => hk.elim) ?aF ?aO ?aB ?aS ?aL ?_
     (case aP => exact k48_mkM _ _ _ (⟨t848, t849, t850, t851⟩ : S48))
     (case aB => exact (by exact zb0 HB))
     (case aF => exact (fun k_ hk => Kd.freshB (zk0 E1) k_ hk))
     (case aO => exact (by exact zr0 E3))
     (case aS => exact (below_size (by exact zb0 HB)))
     (case aL => have := LMc18.out; omega)
     intro v853 w21 ho hb hg hat
     rw [← Ny852.out] at ho
     have n0_ := Aside0.mk (blk_grown (zk0 E1) hg (fun e_ => Nat.not_le.2 GL842.out (Kd.R_base E3.out _ e_.symm)))
     have n1_ := Aside0.mk (blk_grown (zk0 E2) hg (Kd.R_ne E3.out E2.out (by decide)))
     have n2_ := Aside0.mk (blk_grown (zk0 E0) hg (Kd.R_ne E3.out E0.out (by decide)))
     have n3_ := Aside0.mk (hb)
     have n4_ := Aside0.mk (ho)
     clear E1
     clear E2
     clear E0
     clear HB
     clear E3
     have E1 := n0_
     have E2 := n1_
     have E0 := n2_
     have HB := n3_
     have HO854 := n4_
     clear n0_ n1_ n2_ n3_ n4_
     clear ho hb hg hat
     obtain ⟨Ao22, co22, eo22⟩ := Kd.R_slice HO854.out
     (first | subst eo22 | (injection eo22 with f1_ f2_ f3_; have f4_ := f1_.symm; have f5_ := f3_.symm; clear f1_ f2_ f3_; subst f4_; subst f5_))
     refine hK.out _ _ ⟨(blk_cell E0.out 0).trans rfl, (blk_cell E0.out 1).trans rfl, (blk_cell E0.out 2).trans rfl⟩ (fun hHeld => ?_)
     clear hK K
     refine norm_ (a' := ?_) ?_ ?_
     rotate_left
     ·show Act.put _ (some 32) _ = _
      simp only [Act.put, sA, sB, sC, i64_w, i32_w]
      rfl
     refine pure_ (i := 8) (N := some 33) (v := ?_) (a' := ?_) (bs 10 511) rfl rfl (any_of HT_.out (by kernel_rfl)) (fun _ _ _ h => h) (Or.inl ⟨by rfl, ?_⟩) ?_ ?_
     rotate_left
     ·intro w'
      go_simp
      with_reducible rfl
     rotate_left
     ·simp only [Act.put, sA, sB, sC, i64_w, i32_w]
      rfl
     refine last_ (i := 9) (N := none) (bs 10 1023) rfl rfl (one_of HT_.out (by kernel_rfl)) (by decide) (fun K hK => ?_)
     have hs23 : w21.cell? ⟨E6, 2, none⟩ = some (u848002) := (blk_cell E0.out 2).trans rfl
     have hfs23 := blk_frozen E0.out 2
     have L2 := G0.out
     have L3 := G1.out
     have L4 := V0.out
     have L5 := V1.out
     refine skip_ (w1 := ?_) (by rfl) rfl ?_ ?_
     rotate_left
     ·go_simp
      rfl
     refine hK.out _ _ ?_
     clear hK K
     refine done_ (done_of HT_.out (by kernel_rfl)) ?_
     try go_wp2
     first | go_roundg k2 | ((try subst E8); go_roundg k2)
     case measure => have := HK1.out; have := HK2.out; omega
     case rel => first | (exact ⟨(wrap64 (x22_2 + 1)), (y852), (.slice Ao22 y852.length co22), (by first | rfl | (simp; done) | (simp [*]; done)), H', ⟨by have := HK1.out; have := HK2.out; omega⟩, ⟨by exact zro HO854 E0 (by decide)⟩, ⟨by exact zf E1 G0⟩, ⟨by exact zf E2 G1⟩, ⟨by exact zp E0 rfl⟩, ⟨by exact zbo HB G9⟩⟩) | (exact ⟨(wrap64 (x22_2 + 1)), (y852), (.slice Ao22 y852.length co22), (by first | rfl | (simp; done) | (simp [*]; done)), H', ⟨by have := HK1.out; have := HK2.out; omega⟩, ⟨by exact zro HO854 E0 (by decide)⟩, ⟨by exact zf E1 G0⟩, ⟨by exact zf E2 G1⟩, ⟨by exact zp E0 rfl⟩, ⟨by exact zbo HB G9⟩⟩)
/-! ### raster_New: function 26 -/
def raster_New.f (k : Nat) (a0 : Int) (a1 : Int) (a2_0 : Int) (a2_1 : Int) (a2_2 : Int) (a2_3 : Int) : Option (Int × Int × (List (S48)) × Int) := (raster_sides.f a0 a1).bind fun t857 => (if t857 = 0 then ((pixel_Valid.f a2_0 a2_1 a2_2 a2_3).bind fun t858 => (if t858 = true then ((raster_fill__raster_New_1.f k a0 a1 a2_0 a2_1 a2_2 a2_3).bind fun E3 => (some (E3.1, E3.2.1, E3.2.2, 0))) else (some (0, 0, ([] : List (S48)), 2)))) else (some (0, 0, ([] : List (S48)), t857)))
theorem raster_New.mono : ∀ a0 a1 a2 a3 a4 a5 k, LeO (raster_New.f k a0 a1 a2 a3 a4 a5) (raster_New.f (k + 1) a0 a1 a2 a3 a4 a5) := by
 intro a0 a1 a2 a3 a4 a5 k
 unfold raster_New.f
 repeat' first
   | (with_reducible exact raster_fill__raster_New_1.mono _ _ _ _ _ _ _)
   | (with_reducible exact LeO.refl _)
   | (with_reducible exact LeO.none _)
   | (with_reducible refine LeO.ite ?_ ?_)
   | (with_reducible refine LeO.bind ?_ (fun _ => ?_))
   | exact raster_fill__raster_New_1.mono _ _ _ _ _ _ _
   | exact LeO.none _
   | refine LeO.ite ?_ ?_
   | refine LeO.bind ?_ (fun _ => ?_)
set_option maxHeartbeats 8000000 in
set_option maxRecDepth 100000 in
theorem raster_New.calls (k : Nat) (a0 : Int) (a1 : Int) (a2_0 : Int) (a2_1 : Int) (a2_2 : Int) (a2_3 : Int) (r1 : Int) (r2 : Int) (r3 : List (S48)) (r4 : Int) (w : World) (h : raster_New.f k a0 a1 a2_0 a2_1 a2_2 a2_3 = some (r1, r2, r3, r4)) :
  Calls Try.prog 26 #[.int .i64 a0, .int .i64 a1, .agg #[.int .i64 a2_0, .int .i64 a2_1, .int .i64 a2_2, .int .i64 a2_3]] w fun e w' => ∃ v2_ : Value, e = .returned (.tuple #[.agg #[.int .i64 r1, .int .i64 r2, v2_], .int .i64 r4]) ∧ Kd.R k48 48 w' w.heap.size (fun _ => True) v2_ r3 ∧ Below w.heap.size w w' := by
 have hu48 := Try.underlying48
 have hu40 := Try.underlying40
 have HB := Aside0.mk (Below.refl w.heap.size w)
 have H : ((raster_sides.f a0 a1).bind fun t857 => (if t857 = 0 then ((pixel_Valid.f a2_0 a2_1 a2_2 a2_3).bind fun t858 => (if t858 = true then ((raster_fill__raster_New_1.f k a0 a1 a2_0 a2_1 a2_2 a2_3).bind fun E3 => (some (E3.1, E3.2.1, E3.2.2, 0))) else (some (0, 0, ([] : List (S48)), 2)))) else (some (0, 0, ([] : List (S48)), t857)))) = some (r1, r2, r3, r4) := h
 clear h
 replace H := Option.bind_eq_some_iff.mp H
 obtain ⟨t857, A40, H⟩ := H
 try dsimp only at H
 have A4 := Aside0.mk A40
 clear A40
 by_cases c5 : t857 = 0
 rotate_left
 ·rw [if_neg c5] at H
  have G1 : (t857 == 0) = false := beq_eq_false_iff_ne.mpr c5
  have G2 : (t857 != 0) = true := bne_iff_ne.mpr c5
  simp only [Option.some.injEq, Prod.mk.injEq] at H
  obtain ⟨rfl, rfl, rfl, rfl⟩ := H
  go_enter Try.func26, Try.ntmps26
  go_wp2_with (first | ((with_reducible refine gate_dst (N := 5) rfl ?_); refine box_event ?hg (N := 5) ?hd (cs := #[.int .i64 a2_0, .int .i64 a2_1, .int .i64 a2_2, .int .i64 a2_3]) (t := 48) ?hr ?_; (case hd => rfl); (case hg => rfl); (case hr => first | (go_simp; done) | (go_simp; rfl)); intro E4 hg w23 hbox hb; have E8 := zg HB hg; have E9 := zg HB hg; have n0_ := Aside0.mk (hbox); replace HB := zb HB hb; have E0 := n0_; clear n0_; clear hb hbox hg) | ((with_reducible refine gate_dst (N := 6) rfl ?_); refine box_event ?hg (N := 6) ?hd (cs := #[.int .i64 0, .int .i64 0, .slice none 0 0]) (t := 40) ?hr ?_; (case hd => rfl); (case hg => rfl); (case hr => first | (go_simp; done) | (go_simp; rfl)); intro E2 hg w24 hbox hb; have G0 := zg HB hg; have E5 := zg HB hg; have E6 := zn E0 hg; have E7 := zn' E0 hg; have n0_ := Aside0.mk (hbox); replace E0 := zk E0 hb; replace HB := zb HB hb; have E1 := n0_; clear n0_; clear hb hbox hg) | ((with_reducible refine gate_callee (f := 57) rfl ?_); refine goesL_ (some 11) rfl rfl Try.func57 (by kernel_rfl) rfl #[.int .i64 a0, .int .i64 a1] rfl (by (try simp only [List.map_toArray, List.map_cons, List.map_nil]); first | done | rfl | (simp only [List.length_drop, List.length_take]; rfl)) ?_; (with_reducible refine (raster_sides.calls a0 a1 t857 _ A4.out).mono ?_); rintro e w' ⟨rfl, ⟨nd, rfl⟩⟩; refine ⟨_, rfl, ?_⟩; (try (rw [drewN_self w24]; generalize hq_ : World.drewN w24 _ = w24; have n0_ : Aside0 (w24.heap[E4]? = some (.cells #[.int .i64 a2_0, .int .i64 a2_1, .int .i64 a2_2, .int .i64 a2_3] 48 (0, 0))) := ⟨by rw [← hq_]; exact (by exact zk0 E0)⟩; have n1_ : Aside0 (w24.heap[E2]? = some (.cells #[.int .i64 0, .int .i64 0, .slice none 0 0] 40 (0, 0))) := ⟨by rw [← hq_]; exact (by exact zk0 E1)⟩; have n2_ : Aside0 (Below w.heap.size w w24) := ⟨by rw [← hq_]; exact (by exact zb0 HB)⟩; clear E0 E1 HB hq_; have E0 := n0_; have E1 := n1_; have HB := n2_; clear n0_ n1_ n2_)); have G3 := E7.out; have G4 := E6.out; obtain ⟨G5, G6, G7, G8, G9, V0⟩ := zq3 E1))
  refine bodyPost_ret (results_ct rfl _ _ E2 40 #[.int .i64 0, .int .i64 0, .slice none 0 0] (0, 0) _ rfl (by exact zp E1 rfl) Try.underlying40 rfl (by kernel_rfl)) rfl ?_
  exact ⟨_, by first | rfl | (simp [errW_none, errW_some] <;> rfl) | (simp [*, errW_none, errW_some] <;> rfl), by first | exact Kd.R_nil _ _ _ _ _ | exact Kd.N_nil _ _ _ _ _ | exact Kd.V_nil _ _ _ _ _ | exact Kd.Q_nil _ _ _ _ _ | exact Kd.S_nil _ _ _ _ _, by exact zbo HB E5⟩

 rw [if_pos c5] at H
 have G1 : (t857 == 0) = true := beq_iff_eq.mpr c5
 have G2 : (t857 != 0) = false := bne_eq_false_iff_eq.mpr c5
 clear c5
 replace H := Option.bind_eq_some_iff.mp H
 obtain ⟨t858, A60, H⟩ := H
 try dsimp only at H
 have A6 := Aside0.mk A60
 clear A60
 by_cases c7 : t858 = true
 ·subst c7
  rw [if_pos rfl] at H
  replace H := Option.bind_eq_some_iff.mp H
  obtain ⟨⟨t859, t860, t861⟩, A80, H⟩ := H
  try dsimp only at H
  have A8 := Aside0.mk A80
  clear A80
  simp only [Option.some.injEq, Prod.mk.injEq] at H
  obtain ⟨rfl, rfl, rfl, rfl⟩ := H
  go_enter Try.func26, Try.ntmps26
  go_wp2_with (first | ((with_reducible refine gate_dst (N := 5) rfl ?_); refine box_event ?hg (N := 5) ?hd (cs := #[.int .i64 a2_0, .int .i64 a2_1, .int .i64 a2_2, .int .i64 a2_3]) (t := 48) ?hr ?_; (case hd => rfl); (case hg => rfl); (case hr => first | (go_simp; done) | (go_simp; rfl)); intro E4 hg w9 hbox hb; have E8 := zg HB hg; have E9 := zg HB hg; have n0_ := Aside0.mk (hbox); replace HB := zb HB hb; have E0 := n0_; clear n0_; clear hb hbox hg) | ((with_reducible refine gate_dst (N := 6) rfl ?_); refine box_event ?hg (N := 6) ?hd (cs := #[.int .i64 0, .int .i64 0, .slice none 0 0]) (t := 40) ?hr ?_; (case hd => rfl); (case hg => rfl); (case hr => first | (go_simp; done) | (go_simp; rfl)); intro E2 hg w10 hbox hb; have G0 := zg HB hg; have E5 := zg HB hg; have E6 := zn E0 hg; have E7 := zn' E0 hg; have n0_ := Aside0.mk (hbox); replace E0 := zk E0 hb; replace HB := zb HB hb; have E1 := n0_; clear n0_; clear hb hbox hg) | ((with_reducible refine gate_callee (f := 57) rfl ?_); refine goesL_ (some 11) rfl rfl Try.func57 (by kernel_rfl) rfl #[.int .i64 a0, .int .i64 a1] rfl (by (try simp only [List.map_toArray, List.map_cons, List.map_nil]); first | done | rfl | (simp only [List.length_drop, List.length_take]; rfl)) ?_; (with_reducible refine (raster_sides.calls a0 a1 t857 _ A4.out).mono ?_); rintro e w' ⟨rfl, ⟨nd, rfl⟩⟩; refine ⟨_, rfl, ?_⟩; (try (rw [drewN_self w10]; generalize hq_ : World.drewN w10 _ = w10; have n0_ : Aside0 (w10.heap[E4]? = some (.cells #[.int .i64 a2_0, .int .i64 a2_1, .int .i64 a2_2, .int .i64 a2_3] 48 (0, 0))) := ⟨by rw [← hq_]; exact (by exact zk0 E0)⟩; have n1_ : Aside0 (w10.heap[E2]? = some (.cells #[.int .i64 0, .int .i64 0, .slice none 0 0] 40 (0, 0))) := ⟨by rw [← hq_]; exact (by exact zk0 E1)⟩; have n2_ : Aside0 (Below w.heap.size w w10) := ⟨by rw [← hq_]; exact (by exact zb0 HB)⟩; clear E0 E1 HB hq_; have E0 := n0_; have E1 := n1_; have HB := n2_; clear n0_ n1_ n2_)); have V1 := E6.out; have V2 := E7.out; obtain ⟨V3, V4, V5, V6, V7, V8, V9, Y0⟩ := zq4 E0) | ((with_reducible refine gate_callee (f := 58) rfl ?_); refine goesL_ (some 17) rfl rfl Try.func58 (by kernel_rfl) rfl #[.agg #[.int .i64 a2_0, .int .i64 a2_1, .int .i64 a2_2, .int .i64 a2_3]] rfl (by (try simp only [List.map_toArray, List.map_cons, List.map_nil]); first | done | rfl | (simp only [List.length_drop, List.length_take]; rfl)) ?_; (with_reducible refine (pixel_Valid.calls a2_0 a2_1 a2_2 a2_3 true _ A6.out).mono ?_); rintro e w13 ⟨rfl, hb⟩; refine ⟨_, rfl, ?_⟩; replace E0 := zk E0 hb; replace E1 := zk E1 hb; replace HB := zb HB hb; (try clear hb)) | ((with_reducible refine gate_callee (f := 60) rfl ?_); refine goesL_ (some 23) rfl rfl Try.func60 (by kernel_rfl) rfl #[.int .i64 a0, .int .i64 a1, .func (.func 63) #[] #[.pointer (some ⟨E4, 0, none⟩)]] rfl (by (try simp only [List.map_toArray, List.map_cons, List.map_nil]); first | done | rfl | (simp only [List.length_drop, List.length_take]; rfl)) ?_; (with_reducible refine (raster_fill__raster_New_1.calls k a0 a1 E4 a2_0 a2_1 a2_2 a2_3 t859 t860 t861 _ ?side1 A8.out).mono ?_); (case side1 => exact zk0 E0); rintro e w14 ⟨v862, rfl, ho0, hb⟩; refine ⟨_, rfl, ?_⟩; have n0_ := Aside0.mk (Kd.R_lower (Kd.R_newB ho0 (zk0 E0)) (below_size (by exact zb0 HB))); replace E0 := zk E0 hb; replace E1 := zk E1 hb; replace HB := zb HB hb; have HO863 := n0_; clear n0_; (try clear hb); (try clear ho0); obtain ⟨Y1, Y2, Y3, Y4, Y5, Y6⟩ := zq3 E1; obtain ⟨Ao16, co16, eo16⟩ := Kd.R_slice HO863.out; subst eo16))
  refine bodyPost_ret (results_ct rfl _ _ E2 40 #[.int .i64 t859, .int .i64 t860, .slice Ao16 t861.length co16] (0, 0) _ rfl (by exact zp E1 rfl) Try.underlying40 rfl (by kernel_rfl)) rfl ?_
  exact ⟨_, by first | rfl | (simp [errW_none, errW_some] <;> rfl) | (simp [*, errW_none, errW_some] <;> rfl), by (with_reducible repeat (first | apply Kd.R_alloc | apply Kd.R_drewN | apply Kd.R_drew)); exact Kd.R_mono (Kd.R_far (p := ⟨E2, 2, none⟩) (Kd.R_far (p := ⟨E2, 1, none⟩) (Kd.R_far (p := ⟨E2, 0, none⟩) (Kd.R_types HO863.out E1.out (by decide)) (fun _ hk => hk.2) (.int .i64 t859)) (fun _ hk => hk.2) (.int .i64 t860)) (fun _ hk => hk.2) (.slice Ao16 t861.length co16)) (fun _ hk => trivial), by exact zbo HB E5⟩
 replace c7 := Bool.eq_false_iff.mpr c7
 subst c7
 rw [if_neg (show ¬ (false = true) by decide)] at H
 simp only [Option.some.injEq, Prod.mk.injEq] at H
 obtain ⟨rfl, rfl, rfl, rfl⟩ := H
 go_enter Try.func26, Try.ntmps26
 go_wp2_with (first | ((with_reducible refine gate_dst (N := 5) rfl ?_); refine box_event ?hg (N := 5) ?hd (cs := #[.int .i64 a2_0, .int .i64 a2_1, .int .i64 a2_2, .int .i64 a2_3]) (t := 48) ?hr ?_; (case hd => rfl); (case hg => rfl); (case hr => first | (go_simp; done) | (go_simp; rfl)); intro E4 hg w17 hbox hb; have E8 := zg HB hg; have E9 := zg HB hg; have n0_ := Aside0.mk (hbox); replace HB := zb HB hb; have E0 := n0_; clear n0_; clear hb hbox hg) | ((with_reducible refine gate_dst (N := 6) rfl ?_); refine box_event ?hg (N := 6) ?hd (cs := #[.int .i64 0, .int .i64 0, .slice none 0 0]) (t := 40) ?hr ?_; (case hd => rfl); (case hg => rfl); (case hr => first | (go_simp; done) | (go_simp; rfl)); intro E2 hg w18 hbox hb; have G0 := zg HB hg; have E5 := zg HB hg; have E6 := zn E0 hg; have E7 := zn' E0 hg; have n0_ := Aside0.mk (hbox); replace E0 := zk E0 hb; replace HB := zb HB hb; have E1 := n0_; clear n0_; clear hb hbox hg) | ((with_reducible refine gate_callee (f := 57) rfl ?_); refine goesL_ (some 11) rfl rfl Try.func57 (by kernel_rfl) rfl #[.int .i64 a0, .int .i64 a1] rfl (by (try simp only [List.map_toArray, List.map_cons, List.map_nil]); first | done | rfl | (simp only [List.length_drop, List.length_take]; rfl)) ?_; (with_reducible refine (raster_sides.calls a0 a1 t857 _ A4.out).mono ?_); rintro e w' ⟨rfl, ⟨nd, rfl⟩⟩; refine ⟨_, rfl, ?_⟩; (try (rw [drewN_self w18]; generalize hq_ : World.drewN w18 _ = w18; have n0_ : Aside0 (w18.heap[E4]? = some (.cells #[.int .i64 a2_0, .int .i64 a2_1, .int .i64 a2_2, .int .i64 a2_3] 48 (0, 0))) := ⟨by rw [← hq_]; exact (by exact zk0 E0)⟩; have n1_ : Aside0 (w18.heap[E2]? = some (.cells #[.int .i64 0, .int .i64 0, .slice none 0 0] 40 (0, 0))) := ⟨by rw [← hq_]; exact (by exact zk0 E1)⟩; have n2_ : Aside0 (Below w.heap.size w w18) := ⟨by rw [← hq_]; exact (by exact zb0 HB)⟩; clear E0 E1 HB hq_; have E0 := n0_; have E1 := n1_; have HB := n2_; clear n0_ n1_ n2_)); have Y7 := E6.out; have Y8 := E7.out; obtain ⟨Y9, Z0, Z1, Z2, Z3, Z4, Z5, Z6⟩ := zq4 E0) | ((with_reducible refine gate_callee (f := 58) rfl ?_); refine goesL_ (some 17) rfl rfl Try.func58 (by kernel_rfl) rfl #[.agg #[.int .i64 a2_0, .int .i64 a2_1, .int .i64 a2_2, .int .i64 a2_3]] rfl (by (try simp only [List.map_toArray, List.map_cons, List.map_nil]); first | done | rfl | (simp only [List.length_drop, List.length_take]; rfl)) ?_; (with_reducible refine (pixel_Valid.calls a2_0 a2_1 a2_2 a2_3 false _ A6.out).mono ?_); rintro e w21 ⟨rfl, hb⟩; refine ⟨_, rfl, ?_⟩; replace E0 := zk E0 hb; replace E1 := zk E1 hb; replace HB := zb HB hb; (try clear hb); obtain ⟨Z7, Z8, Z9, J0, J1, J2⟩ := zq3 E1))
 refine bodyPost_ret (results_ct rfl _ _ E2 40 #[.int .i64 0, .int .i64 0, .slice none 0 0] (0, 0) _ rfl (by exact zp E1 rfl) Try.underlying40 rfl (by kernel_rfl)) rfl ?_
 exact ⟨_, by first | rfl | (simp [errW_none, errW_some] <;> rfl) | (simp [*, errW_none, errW_some] <;> rfl), by first | exact Kd.R_nil _ _ _ _ _ | exact Kd.N_nil _ _ _ _ _ | exact Kd.V_nil _ _ _ _ _ | exact Kd.Q_nil _ _ _ _ _ | exact Kd.S_nil _ _ _ _ _, by exact zbo HB E5⟩
/-! ### raster_Put_1: function 64 -/
def raster_Put_1.f (a0 : Int) (a1 : Int) (a2_0 : Int) (a3_0 : Int) (a4_0 : Int) (a4_1 : Int) (l4_2 : List (S48)) (a5_0 : Int) (a5_1 : Int) (l5_2 : List (S48)) : Option (Int × Int × Int × Int) := if (wrap64 (a0 - a2_0)) ≥ 0 then (if (wrap64 (a0 - a2_0)) < a4_0 then (if (wrap64 (a1 - a3_0)) ≥ 0 then (if (wrap64 (a1 - a3_0)) < a4_1 then (if 0 ≤ (wrap64 ((wrap64 ((wrap64 (a1 - a3_0)) * a4_0)) + (wrap64 (a0 - a2_0)))) then (if (wrap64 ((wrap64 ((wrap64 (a1 - a3_0)) * a4_0)) + (wrap64 (a0 - a2_0)))) < (l4_2.length : Int) then (some ((rd_T48 l4_2 (wrap64 ((wrap64 ((wrap64 (a1 - a3_0)) * a4_0)) + (wrap64 (a0 - a2_0))))).f0, (rd_T48 l4_2 (wrap64 ((wrap64 ((wrap64 (a1 - a3_0)) * a4_0)) + (wrap64 (a0 - a2_0))))).f1, (rd_T48 l4_2 (wrap64 ((wrap64 ((wrap64 (a1 - a3_0)) * a4_0)) + (wrap64 (a0 - a2_0))))).f2, (rd_T48 l4_2 (wrap64 ((wrap64 ((wrap64 (a1 - a3_0)) * a4_0)) + (wrap64 (a0 - a2_0))))).f3)) else (none)) else (none)) else ((raster_get.f a5_0 a5_1 l5_2 a0 a1).bind fun V3 => (some (V3.1, V3.2.1, V3.2.2.1, V3.2.2.2)))) else ((raster_get.f a5_0 a5_1 l5_2 a0 a1).bind fun V4 => (some (V4.1, V4.2.1, V4.2.2.1, V4.2.2.2)))) else ((raster_get.f a5_0 a5_1 l5_2 a0 a1).bind fun V5 => (some (V5.1, V5.2.1, V5.2.2.1, V5.2.2.2)))) else ((raster_get.f a5_0 a5_1 l5_2 a0 a1).bind fun V6 => (some (V6.1, V6.2.1, V6.2.2.1, V6.2.2.2)))
set_option maxHeartbeats 8000000 in
set_option maxRecDepth 100000 in
theorem raster_Put_1.calls (a0 : Int) (a1 : Int) (V8 : Nat) (a2_0 : Int) (V9 : Nat) (a3_0 : Int) (Y0 : Nat) (a4_0 : Int) (a4_1 : Int) (A4_2 : Option Addr) (c4_2 : Nat) (l4_2 : List (S48)) (Y1 : Nat) (a5_0 : Int) (a5_1 : Int) (A5_2 : Option Addr) (c5_2 : Nat) (l5_2 : List (S48)) (r1 : Int) (r2 : Int) (r3 : Int) (r4 : Int) (w : World) (hp2_0 : w.heap[V8]? = some (.cells #[.int .i64 a2_0] 3 (0, 0))) (hp3_0 : w.heap[V9]? = some (.cells #[.int .i64 a3_0] 3 (0, 0))) (hp4_0 : w.heap[Y0]? = some (.cells #[.int .i64 a4_0, .int .i64 a4_1, .slice A4_2 l4_2.length c4_2] 40 (0, 0))) (hr4_2 : Kd.C k48 w A4_2 l4_2.length l4_2) (hc4_2 : l4_2.length ≤ c4_2) (hp5_0 : w.heap[Y1]? = some (.cells #[.int .i64 a5_0, .int .i64 a5_1, .slice A5_2 l5_2.length c5_2] 40 (0, 0))) (hr5_2 : Kd.C k48 w A5_2 l5_2.length l5_2) (hc5_2 : l5_2.length ≤ c5_2) (h : raster_Put_1.f a0 a1 a2_0 a3_0 a4_0 a4_1 l4_2 a5_0 a5_1 l5_2 = some (r1, r2, r3, r4)) :
  Calls Try.prog 64 #[.int .i64 a0, .int .i64 a1, .pointer (some ⟨V8, 0, none⟩), .pointer (some ⟨V9, 0, none⟩), .pointer (some ⟨Y0, 0, none⟩), .pointer (some ⟨Y1, 0, none⟩)] w fun e w' => e = .returned (.agg #[.int .i64 r1, .int .i64 r2, .int .i64 r3, .int .i64 r4]) ∧ Below w.heap.size w w' := by
 have hu48 := Try.underlying48
 have hu40 := Try.underlying40
 have Y2 := Aside0.mk hr4_2
 have E2c := Aside0.mk hc4_2
 clear hr4_2 hc4_2
 have G7 := Aside0.mk hr5_2
 have G8 := Aside0.mk hc5_2
 clear hr5_2 hc5_2
 have E0 := Aside0.mk hp2_0
 have GL864 := Aside0.mk (show V8 < w.heap.size from blk_lt hp2_0)
 clear hp2_0
 have E1 := Aside0.mk hp3_0
 have GL865 := Aside0.mk (show V9 < w.heap.size from blk_lt hp3_0)
 clear hp3_0
 have E2 := Aside0.mk hp4_0
 have GL866 := Aside0.mk (show Y0 < w.heap.size from blk_lt hp4_0)
 clear hp4_0
 have E3 := Aside0.mk hp5_0
 have GL867 := Aside0.mk (show Y1 < w.heap.size from blk_lt hp5_0)
 clear hp5_0
 have HB := Aside0.mk (Below.refl w.heap.size w)
 have H : (if (wrap64 (a0 - a2_0)) ≥ 0 then (if (wrap64 (a0 - a2_0)) < a4_0 then (if (wrap64 (a1 - a3_0)) ≥ 0 then (if (wrap64 (a1 - a3_0)) < a4_1 then (if 0 ≤ (wrap64 ((wrap64 ((wrap64 (a1 - a3_0)) * a4_0)) + (wrap64 (a0 - a2_0)))) then (if (wrap64 ((wrap64 ((wrap64 (a1 - a3_0)) * a4_0)) + (wrap64 (a0 - a2_0)))) < (l4_2.length : Int) then (some ((rd_T48 l4_2 (wrap64 ((wrap64 ((wrap64 (a1 - a3_0)) * a4_0)) + (wrap64 (a0 - a2_0))))).f0, (rd_T48 l4_2 (wrap64 ((wrap64 ((wrap64 (a1 - a3_0)) * a4_0)) + (wrap64 (a0 - a2_0))))).f1, (rd_T48 l4_2 (wrap64 ((wrap64 ((wrap64 (a1 - a3_0)) * a4_0)) + (wrap64 (a0 - a2_0))))).f2, (rd_T48 l4_2 (wrap64 ((wrap64 ((wrap64 (a1 - a3_0)) * a4_0)) + (wrap64 (a0 - a2_0))))).f3)) else (none)) else (none)) else ((raster_get.f a5_0 a5_1 l5_2 a0 a1).bind fun V3 => (some (V3.1, V3.2.1, V3.2.2.1, V3.2.2.2)))) else ((raster_get.f a5_0 a5_1 l5_2 a0 a1).bind fun V4 => (some (V4.1, V4.2.1, V4.2.2.1, V4.2.2.2)))) else ((raster_get.f a5_0 a5_1 l5_2 a0 a1).bind fun V5 => (some (V5.1, V5.2.1, V5.2.2.1, V5.2.2.2)))) else ((raster_get.f a5_0 a5_1 l5_2 a0 a1).bind fun V6 => (some (V6.1, V6.2.1, V6.2.2.1, V6.2.2.2)))) = some (r1, r2, r3, r4) := h
 clear h
 by_cases c7 : (wrap64 (a0 - a2_0)) ≥ 0
 rotate_left
 ·rw [if_neg c7] at H
  have E1Y : decide (0 ≤ (wrap64 (a0 - a2_0))) = false := decide_eq_false c7
  clear c7
  replace H := Option.bind_eq_some_iff.mp H
  obtain ⟨⟨t882, t883, t884, t885⟩, A590, H⟩ := H
  try dsimp only at H
  have A59 := Aside0.mk A590
  clear A590
  simp only [Option.some.injEq, Prod.mk.injEq] at H
  obtain ⟨rfl, rfl, rfl, rfl⟩ := H
  go_enter Try.func64, Try.ntmps64
  go_wp2_with (first | ((with_reducible refine gate_dst (N := 8) rfl ?_); refine box_event ?hg (N := 8) ?hd (cs := #[.int .i64 0, .int .i64 0, .int .i64 0, .int .i64 0]) (t := 48) ?hr ?_; (case hd => rfl); (case hg => rfl); (case hr => first | (go_simp; done) | (go_simp; rfl)); intro G4 hg w60 hbox hb; have G6 := zg HB hg; have G5 := zg HB hg; have E5 := zn E0 hg; have E6 := zn' E0 hg; have E7 := zn E1 hg; have E8 := zn' E1 hg; have E9 := zn E2 hg; have G0 := zn' E2 hg; have G1 := zn E3 hg; have G2 := zn' E3 hg; have n0_ := Aside0.mk (hbox); replace E0 := zk E0 hb; replace E1 := zk E1 hb; replace E2 := zk E2 hb; replace E3 := zk E3 hb; replace HB := zb HB hb; have E4 := n0_; clear n0_; clear hb hbox hg; have Y3 := E5.out; have Y4 := E6.out; obtain ⟨Y5, Y6⟩ := zq1 E0; have Y7 := E7.out; have Y8 := E8.out; obtain ⟨Y9, Z0⟩ := zq1 E1; have Z1 := G1.out; have Z2 := G2.out; obtain ⟨Z3, Z4, Z5, Z6, Z7, Z8⟩ := zq3 E3) | (go_at_call 59; (with_reducible refine (raster_get.calls a5_0 a5_1 _ _ l5_2 a0 a1 t882 t883 t884 t885 _ ?side1 ?side2 A59.out).mono ?_); (case side1 => repeat (first | exact (Kd.C_below G7.out HB.out) | (with_reducible refine Kd.C_alloc ?_ _) | (with_reducible refine Kd.C_drewN ?_ _) | (with_reducible refine Kd.C_drew ?_))); (case side2 => exact G8.out); rintro e w67 ⟨rfl, hb⟩; replace E0 := zk E0 hb; replace E1 := zk E1 hb; replace E2 := zk E2 hb; replace E3 := zk E3 hb; replace E4 := zk E4 hb; replace HB := zb HB hb; (try clear hb); have Z9 := G0.out; have J0 := E9.out; obtain ⟨J1, J2, J3, J4, J5, J6, J7, J8⟩ := zq4 E4))
  repeat (go_quiet (first | ((with_reducible refine gate_dst (N := 8) rfl ?_); refine box_event ?hg (N := 8) ?hd (cs := #[.int .i64 0, .int .i64 0, .int .i64 0, .int .i64 0]) (t := 48) ?hr ?_; (case hd => rfl); (case hg => rfl); (case hr => first | (go_simp; done) | (go_simp; rfl)); intro G4 hg w60 hbox hb; have G6 := zg HB hg; have G5 := zg HB hg; have E5 := zn E0 hg; have E6 := zn' E0 hg; have E7 := zn E1 hg; have E8 := zn' E1 hg; have E9 := zn E2 hg; have G0 := zn' E2 hg; have G1 := zn E3 hg; have G2 := zn' E3 hg; have n0_ := Aside0.mk (hbox); replace E0 := zk E0 hb; replace E1 := zk E1 hb; replace E2 := zk E2 hb; replace E3 := zk E3 hb; replace HB := zb HB hb; have E4 := n0_; clear n0_; clear hb hbox hg; have Y3 := E5.out; have Y4 := E6.out; obtain ⟨Y5, Y6⟩ := zq1 E0; have Y7 := E7.out; have Y8 := E8.out; obtain ⟨Y9, Z0⟩ := zq1 E1; have Z1 := G1.out; have Z2 := G2.out; obtain ⟨Z3, Z4, Z5, Z6, Z7, Z8⟩ := zq3 E3) | (go_at_call 59; (with_reducible refine (raster_get.calls a5_0 a5_1 _ _ l5_2 a0 a1 t882 t883 t884 t885 _ ?side1 ?side2 A59.out).mono ?_); (case side1 => repeat (first | exact (Kd.C_below G7.out HB.out) | (with_reducible refine Kd.C_alloc ?_ _) | (with_reducible refine Kd.C_drewN ?_ _) | (with_reducible refine Kd.C_drew ?_))); (case side2 => exact G8.out); rintro e w67 ⟨rfl, hb⟩; replace E0 := zk E0 hb; replace E1 := zk E1 hb; replace E2 := zk E2 hb; replace E3 := zk E3 hb; replace E4 := zk E4 hb; replace HB := zb HB hb; (try clear hb); have Z9 := G0.out; have J0 := E9.out; obtain ⟨J1, J2, J3, J4, J5, J6, J7, J8⟩ := zq4 E4)); try go_wp2_with (first | ((with_reducible refine gate_dst (N := 8) rfl ?_); refine box_event ?hg (N := 8) ?hd (cs := #[.int .i64 0, .int .i64 0, .int .i64 0, .int .i64 0]) (t := 48) ?hr ?_; (case hd => rfl); (case hg => rfl); (case hr => first | (go_simp; done) | (go_simp; rfl)); intro G4 hg w60 hbox hb; have G6 := zg HB hg; have G5 := zg HB hg; have E5 := zn E0 hg; have E6 := zn' E0 hg; have E7 := zn E1 hg; have E8 := zn' E1 hg; have E9 := zn E2 hg; have G0 := zn' E2 hg; have G1 := zn E3 hg; have G2 := zn' E3 hg; have n0_ := Aside0.mk (hbox); replace E0 := zk E0 hb; replace E1 := zk E1 hb; replace E2 := zk E2 hb; replace E3 := zk E3 hb; replace HB := zb HB hb; have E4 := n0_; clear n0_; clear hb hbox hg; have Y3 := E5.out; have Y4 := E6.out; obtain ⟨Y5, Y6⟩ := zq1 E0; have Y7 := E7.out; have Y8 := E8.out; obtain ⟨Y9, Z0⟩ := zq1 E1; have Z1 := G1.out; have Z2 := G2.out; obtain ⟨Z3, Z4, Z5, Z6, Z7, Z8⟩ := zq3 E3) | (go_at_call 59; (with_reducible refine (raster_get.calls a5_0 a5_1 _ _ l5_2 a0 a1 t882 t883 t884 t885 _ ?side1 ?side2 A59.out).mono ?_); (case side1 => repeat (first | exact (Kd.C_below G7.out HB.out) | (with_reducible refine Kd.C_alloc ?_ _) | (with_reducible refine Kd.C_drewN ?_ _) | (with_reducible refine Kd.C_drew ?_))); (case side2 => exact G8.out); rintro e w67 ⟨rfl, hb⟩; replace E0 := zk E0 hb; replace E1 := zk E1 hb; replace E2 := zk E2 hb; replace E3 := zk E3 hb; replace E4 := zk E4 hb; replace HB := zb HB hb; (try clear hb); have Z9 := G0.out; have J0 := E9.out; obtain ⟨J1, J2, J3, J4, J5, J6, J7, J8⟩ := zq4 E4)))
  refine bodyPost_ret (results_cell_row rfl _ _ G4 48 #[.int .i64 t882, .int .i64 t883, .int .i64 t884, .int .i64 t885] (0, 0) _ rfl (by exact zp E4 rfl) Try.underlying48 rfl (by kernel_rfl)) rfl ?_
  exact ⟨by first | rfl | (simp [errW_none, errW_some] <;> rfl) | (simp [*, errW_none, errW_some] <;> rfl), by exact zbo HB G5⟩

 rw [if_pos c7] at H
 have E1Y : decide (0 ≤ (wrap64 (a0 - a2_0))) = true := decide_eq_true c7
 clear c7
 by_cases c8 : (wrap64 (a0 - a2_0)) < a4_0
 rotate_left
 ·rw [if_neg c8] at H
  have E1Z : decide ((wrap64 (a0 - a2_0)) < a4_0) = false := decide_eq_false c8
  clear c8
  replace H := Option.bind_eq_some_iff.mp H
  obtain ⟨⟨t878, t879, t880, t881⟩, A470, H⟩ := H
  try dsimp only at H
  have A47 := Aside0.mk A470
  clear A470
  simp only [Option.some.injEq, Prod.mk.injEq] at H
  obtain ⟨rfl, rfl, rfl, rfl⟩ := H
  go_enter Try.func64, Try.ntmps64
  go_wp2_with (first | ((with_reducible refine gate_dst (N := 8) rfl ?_); refine box_event ?hg (N := 8) ?hd (cs := #[.int .i64 0, .int .i64 0, .int .i64 0, .int .i64 0]) (t := 48) ?hr ?_; (case hd => rfl); (case hg => rfl); (case hr => first | (go_simp; done) | (go_simp; rfl)); intro G4 hg w48 hbox hb; have G6 := zg HB hg; have G5 := zg HB hg; have E5 := zn E0 hg; have E6 := zn' E0 hg; have E7 := zn E1 hg; have E8 := zn' E1 hg; have E9 := zn E2 hg; have G0 := zn' E2 hg; have G1 := zn E3 hg; have G2 := zn' E3 hg; have n0_ := Aside0.mk (hbox); replace E0 := zk E0 hb; replace E1 := zk E1 hb; replace E2 := zk E2 hb; replace E3 := zk E3 hb; replace HB := zb HB hb; have E4 := n0_; clear n0_; clear hb hbox hg; have J9 := E5.out; have L0 := E6.out; obtain ⟨L1, L2⟩ := zq1 E0; have L3 := E7.out; have L4 := E8.out; obtain ⟨L5, L6⟩ := zq1 E1; have L7 := E9.out; have L8 := G0.out; obtain ⟨L9, Q0, Q1, Q2, Q3, Q4⟩ := zq3 E2; have Q5 := G1.out; have Q6 := G2.out; obtain ⟨Q7, Q8, Q9, E0a, E0b, E0c⟩ := zq3 E3) | (go_at_call 59; (with_reducible refine (raster_get.calls a5_0 a5_1 _ _ l5_2 a0 a1 t878 t879 t880 t881 _ ?side1 ?side2 A47.out).mono ?_); (case side1 => repeat (first | exact (Kd.C_below G7.out HB.out) | (with_reducible refine Kd.C_alloc ?_ _) | (with_reducible refine Kd.C_drewN ?_ _) | (with_reducible refine Kd.C_drew ?_))); (case side2 => exact G8.out); rintro e w57 ⟨rfl, hb⟩; replace E0 := zk E0 hb; replace E1 := zk E1 hb; replace E2 := zk E2 hb; replace E3 := zk E3 hb; replace E4 := zk E4 hb; replace HB := zb HB hb; (try clear hb); obtain ⟨E0d, E0e, E0f, E0g, E0h, E0i, E0j, E0k⟩ := zq4 E4))
  repeat (go_quiet (first | ((with_reducible refine gate_dst (N := 8) rfl ?_); refine box_event ?hg (N := 8) ?hd (cs := #[.int .i64 0, .int .i64 0, .int .i64 0, .int .i64 0]) (t := 48) ?hr ?_; (case hd => rfl); (case hg => rfl); (case hr => first | (go_simp; done) | (go_simp; rfl)); intro G4 hg w48 hbox hb; have G6 := zg HB hg; have G5 := zg HB hg; have E5 := zn E0 hg; have E6 := zn' E0 hg; have E7 := zn E1 hg; have E8 := zn' E1 hg; have E9 := zn E2 hg; have G0 := zn' E2 hg; have G1 := zn E3 hg; have G2 := zn' E3 hg; have n0_ := Aside0.mk (hbox); replace E0 := zk E0 hb; replace E1 := zk E1 hb; replace E2 := zk E2 hb; replace E3 := zk E3 hb; replace HB := zb HB hb; have E4 := n0_; clear n0_; clear hb hbox hg; have J9 := E5.out; have L0 := E6.out; obtain ⟨L1, L2⟩ := zq1 E0; have L3 := E7.out; have L4 := E8.out; obtain ⟨L5, L6⟩ := zq1 E1; have L7 := E9.out; have L8 := G0.out; obtain ⟨L9, Q0, Q1, Q2, Q3, Q4⟩ := zq3 E2; have Q5 := G1.out; have Q6 := G2.out; obtain ⟨Q7, Q8, Q9, E0a, E0b, E0c⟩ := zq3 E3) | (go_at_call 59; (with_reducible refine (raster_get.calls a5_0 a5_1 _ _ l5_2 a0 a1 t878 t879 t880 t881 _ ?side1 ?side2 A47.out).mono ?_); (case side1 => repeat (first | exact (Kd.C_below G7.out HB.out) | (with_reducible refine Kd.C_alloc ?_ _) | (with_reducible refine Kd.C_drewN ?_ _) | (with_reducible refine Kd.C_drew ?_))); (case side2 => exact G8.out); rintro e w57 ⟨rfl, hb⟩; replace E0 := zk E0 hb; replace E1 := zk E1 hb; replace E2 := zk E2 hb; replace E3 := zk E3 hb; replace E4 := zk E4 hb; replace HB := zb HB hb; (try clear hb); obtain ⟨E0d, E0e, E0f, E0g, E0h, E0i, E0j, E0k⟩ := zq4 E4)); try go_wp2_with (first | ((with_reducible refine gate_dst (N := 8) rfl ?_); refine box_event ?hg (N := 8) ?hd (cs := #[.int .i64 0, .int .i64 0, .int .i64 0, .int .i64 0]) (t := 48) ?hr ?_; (case hd => rfl); (case hg => rfl); (case hr => first | (go_simp; done) | (go_simp; rfl)); intro G4 hg w48 hbox hb; have G6 := zg HB hg; have G5 := zg HB hg; have E5 := zn E0 hg; have E6 := zn' E0 hg; have E7 := zn E1 hg; have E8 := zn' E1 hg; have E9 := zn E2 hg; have G0 := zn' E2 hg; have G1 := zn E3 hg; have G2 := zn' E3 hg; have n0_ := Aside0.mk (hbox); replace E0 := zk E0 hb; replace E1 := zk E1 hb; replace E2 := zk E2 hb; replace E3 := zk E3 hb; replace HB := zb HB hb; have E4 := n0_; clear n0_; clear hb hbox hg; have J9 := E5.out; have L0 := E6.out; obtain ⟨L1, L2⟩ := zq1 E0; have L3 := E7.out; have L4 := E8.out; obtain ⟨L5, L6⟩ := zq1 E1; have L7 := E9.out; have L8 := G0.out; obtain ⟨L9, Q0, Q1, Q2, Q3, Q4⟩ := zq3 E2; have Q5 := G1.out; have Q6 := G2.out; obtain ⟨Q7, Q8, Q9, E0a, E0b, E0c⟩ := zq3 E3) | (go_at_call 59; (with_reducible refine (raster_get.calls a5_0 a5_1 _ _ l5_2 a0 a1 t878 t879 t880 t881 _ ?side1 ?side2 A47.out).mono ?_); (case side1 => repeat (first | exact (Kd.C_below G7.out HB.out) | (with_reducible refine Kd.C_alloc ?_ _) | (with_reducible refine Kd.C_drewN ?_ _) | (with_reducible refine Kd.C_drew ?_))); (case side2 => exact G8.out); rintro e w57 ⟨rfl, hb⟩; replace E0 := zk E0 hb; replace E1 := zk E1 hb; replace E2 := zk E2 hb; replace E3 := zk E3 hb; replace E4 := zk E4 hb; replace HB := zb HB hb; (try clear hb); obtain ⟨E0d, E0e, E0f, E0g, E0h, E0i, E0j, E0k⟩ := zq4 E4)))
  refine bodyPost_ret (results_cell_row rfl _ _ G4 48 #[.int .i64 t878, .int .i64 t879, .int .i64 t880, .int .i64 t881] (0, 0) _ rfl (by exact zp E4 rfl) Try.underlying48 rfl (by kernel_rfl)) rfl ?_
  exact ⟨by first | rfl | (simp [errW_none, errW_some] <;> rfl) | (simp [*, errW_none, errW_some] <;> rfl), by exact zbo HB G5⟩
 rw [if_pos c8] at H
 have E1Z : decide ((wrap64 (a0 - a2_0)) < a4_0) = true := decide_eq_true c8
 clear c8
 by_cases c9 : (wrap64 (a1 - a3_0)) ≥ 0
 rotate_left
 ·rw [if_neg c9] at H
  have E2a : decide (0 ≤ (wrap64 (a1 - a3_0))) = false := decide_eq_false c9
  clear c9
  replace H := Option.bind_eq_some_iff.mp H
  obtain ⟨⟨t874, t875, t876, t877⟩, A350, H⟩ := H
  try dsimp only at H
  have A35 := Aside0.mk A350
  clear A350
  simp only [Option.some.injEq, Prod.mk.injEq] at H
  obtain ⟨rfl, rfl, rfl, rfl⟩ := H
  go_enter Try.func64, Try.ntmps64
  go_wp2_with (first | ((with_reducible refine gate_dst (N := 8) rfl ?_); refine box_event ?hg (N := 8) ?hd (cs := #[.int .i64 0, .int .i64 0, .int .i64 0, .int .i64 0]) (t := 48) ?hr ?_; (case hd => rfl); (case hg => rfl); (case hr => first | (go_simp; done) | (go_simp; rfl)); intro G4 hg w36 hbox hb; have G6 := zg HB hg; have G5 := zg HB hg; have E5 := zn E0 hg; have E6 := zn' E0 hg; have E7 := zn E1 hg; have E8 := zn' E1 hg; have E9 := zn E2 hg; have G0 := zn' E2 hg; have G1 := zn E3 hg; have G2 := zn' E3 hg; have n0_ := Aside0.mk (hbox); replace E0 := zk E0 hb; replace E1 := zk E1 hb; replace E2 := zk E2 hb; replace E3 := zk E3 hb; replace HB := zb HB hb; have E4 := n0_; clear n0_; clear hb hbox hg; have E0l := E5.out; have E0m := E6.out; obtain ⟨E0n, E0o⟩ := zq1 E0; have E0p := E7.out; have E0q := E8.out; obtain ⟨E0r, E0s⟩ := zq1 E1; have E0t := E9.out; have E0u := G0.out; obtain ⟨E0v, E0w, E0x, E0y, E0z, E0A⟩ := zq3 E2; have E0B := G1.out; have E0C := G2.out; obtain ⟨E0D, E0E, E0F, E0G, E0H, E0I⟩ := zq3 E3) | (go_at_call 59; (with_reducible refine (raster_get.calls a5_0 a5_1 _ _ l5_2 a0 a1 t874 t875 t876 t877 _ ?side1 ?side2 A35.out).mono ?_); (case side1 => repeat (first | exact (Kd.C_below G7.out HB.out) | (with_reducible refine Kd.C_alloc ?_ _) | (with_reducible refine Kd.C_drewN ?_ _) | (with_reducible refine Kd.C_drew ?_))); (case side2 => exact G8.out); rintro e w45 ⟨rfl, hb⟩; replace E0 := zk E0 hb; replace E1 := zk E1 hb; replace E2 := zk E2 hb; replace E3 := zk E3 hb; replace E4 := zk E4 hb; replace HB := zb HB hb; (try clear hb); obtain ⟨E0J, E0K, E0L, E0M, E0N, E0O, E0P, E0Q⟩ := zq4 E4))
  repeat (go_quiet (first | ((with_reducible refine gate_dst (N := 8) rfl ?_); refine box_event ?hg (N := 8) ?hd (cs := #[.int .i64 0, .int .i64 0, .int .i64 0, .int .i64 0]) (t := 48) ?hr ?_; (case hd => rfl); (case hg => rfl); (case hr => first | (go_simp; done) | (go_simp; rfl)); intro G4 hg w36 hbox hb; have G6 := zg HB hg; have G5 := zg HB hg; have E5 := zn E0 hg; have E6 := zn' E0 hg; have E7 := zn E1 hg; have E8 := zn' E1 hg; have E9 := zn E2 hg; have G0 := zn' E2 hg; have G1 := zn E3 hg; have G2 := zn' E3 hg; have n0_ := Aside0.mk (hbox); replace E0 := zk E0 hb; replace E1 := zk E1 hb; replace E2 := zk E2 hb; replace E3 := zk E3 hb; replace HB := zb HB hb; have E4 := n0_; clear n0_; clear hb hbox hg; have E0l := E5.out; have E0m := E6.out; obtain ⟨E0n, E0o⟩ := zq1 E0; have E0p := E7.out; have E0q := E8.out; obtain ⟨E0r, E0s⟩ := zq1 E1; have E0t := E9.out; have E0u := G0.out; obtain ⟨E0v, E0w, E0x, E0y, E0z, E0A⟩ := zq3 E2; have E0B := G1.out; have E0C := G2.out; obtain ⟨E0D, E0E, E0F, E0G, E0H, E0I⟩ := zq3 E3) | (go_at_call 59; (with_reducible refine (raster_get.calls a5_0 a5_1 _ _ l5_2 a0 a1 t874 t875 t876 t877 _ ?side1 ?side2 A35.out).mono ?_); (case side1 => repeat (first | exact (Kd.C_below G7.out HB.out) | (with_reducible refine Kd.C_alloc ?_ _) | (with_reducible refine Kd.C_drewN ?_ _) | (with_reducible refine Kd.C_drew ?_))); (case side2 => exact G8.out); rintro e w45 ⟨rfl, hb⟩; replace E0 := zk E0 hb; replace E1 := zk E1 hb; replace E2 := zk E2 hb; replace E3 := zk E3 hb; replace E4 := zk E4 hb; replace HB := zb HB hb; (try clear hb); obtain ⟨E0J, E0K, E0L, E0M, E0N, E0O, E0P, E0Q⟩ := zq4 E4)); try go_wp2_with (first | ((with_reducible refine gate_dst (N := 8) rfl ?_); refine box_event ?hg (N := 8) ?hd (cs := #[.int .i64 0, .int .i64 0, .int .i64 0, .int .i64 0]) (t := 48) ?hr ?_; (case hd => rfl); (case hg => rfl); (case hr => first | (go_simp; done) | (go_simp; rfl)); intro G4 hg w36 hbox hb; have G6 := zg HB hg; have G5 := zg HB hg; have E5 := zn E0 hg; have E6 := zn' E0 hg; have E7 := zn E1 hg; have E8 := zn' E1 hg; have E9 := zn E2 hg; have G0 := zn' E2 hg; have G1 := zn E3 hg; have G2 := zn' E3 hg; have n0_ := Aside0.mk (hbox); replace E0 := zk E0 hb; replace E1 := zk E1 hb; replace E2 := zk E2 hb; replace E3 := zk E3 hb; replace HB := zb HB hb; have E4 := n0_; clear n0_; clear hb hbox hg; have E0l := E5.out; have E0m := E6.out; obtain ⟨E0n, E0o⟩ := zq1 E0; have E0p := E7.out; have E0q := E8.out; obtain ⟨E0r, E0s⟩ := zq1 E1; have E0t := E9.out; have E0u := G0.out; obtain ⟨E0v, E0w, E0x, E0y, E0z, E0A⟩ := zq3 E2; have E0B := G1.out; have E0C := G2.out; obtain ⟨E0D, E0E, E0F, E0G, E0H, E0I⟩ := zq3 E3) | (go_at_call 59; (with_reducible refine (raster_get.calls a5_0 a5_1 _ _ l5_2 a0 a1 t874 t875 t876 t877 _ ?side1 ?side2 A35.out).mono ?_); (case side1 => repeat (first | exact (Kd.C_below G7.out HB.out) | (with_reducible refine Kd.C_alloc ?_ _) | (with_reducible refine Kd.C_drewN ?_ _) | (with_reducible refine Kd.C_drew ?_))); (case side2 => exact G8.out); rintro e w45 ⟨rfl, hb⟩; replace E0 := zk E0 hb; replace E1 := zk E1 hb; replace E2 := zk E2 hb; replace E3 := zk E3 hb; replace E4 := zk E4 hb; replace HB := zb HB hb; (try clear hb); obtain ⟨E0J, E0K, E0L, E0M, E0N, E0O, E0P, E0Q⟩ := zq4 E4)))
  refine bodyPost_ret (results_cell_row rfl _ _ G4 48 #[.int .i64 t874, .int .i64 t875, .int .i64 t876, .int .i64 t877] (0, 0) _ rfl (by exact zp E4 rfl) Try.underlying48 rfl (by kernel_rfl)) rfl ?_
  exact ⟨by first | rfl | (simp [errW_none, errW_some] <;> rfl) | (simp [*, errW_none, errW_some] <;> rfl), by exact zbo HB G5⟩
 rw [if_pos c9] at H
 have E2a : decide (0 ≤ (wrap64 (a1 - a3_0))) = true := decide_eq_true c9
 clear c9
 by_cases c10 : (wrap64 (a1 - a3_0)) < a4_1
 ·rw [if_pos c10] at H
  have E2b : decide ((wrap64 (a1 - a3_0)) < a4_1) = true := decide_eq_true c10
  clear c10
  obtain ⟨G3, V7⟩ : ∃ j_ : Int, (wrap64 ((wrap64 ((wrap64 (a1 - a3_0)) * a4_0)) + (wrap64 (a0 - a2_0)))) = j_ := ⟨_, rfl⟩
  replace H : (if 0 ≤ (G3) then (if (G3) < (l4_2.length : Int) then (some ((rd_T48 l4_2 (G3)).f0, (rd_T48 l4_2 (G3)).f1, (rd_T48 l4_2 (G3)).f2, (rd_T48 l4_2 (G3)).f3)) else (none)) else (none)) = some (r1, r2, r3, r4) := by first | (rw [V7] at H; exact H) | (simp only [V7] at H ⊢; exact H)
  have E2d : (IntKind.i64.wrap ((wrap64 ((wrap64 (a1 - a3_0)) * a4_0)) + (wrap64 (a0 - a2_0)))) = G3 := (i64_w _).trans V7
  by_cases c12 : 0 ≤ (G3)
  rotate_left
  ·rw [if_neg c12] at H
   exact absurd H (by simp)
  rw [if_pos c12] at H
  have E2e : decide (0 ≤ (G3)) = true := decide_eq_true c12
  clear c12
  by_cases c13 : (G3) < (l4_2.length : Int)
  ·rw [if_pos c13] at H
   have E2f : decide ((G3) < (l4_2.length : Int)) = true := decide_eq_true c13
   clear c13
   simp only [Option.some.injEq, Prod.mk.injEq] at H
   obtain ⟨rfl, rfl, rfl, rfl⟩ := H
   go_enter Try.func64, Try.ntmps64
   go_wp2_with (first | ((with_reducible refine gate_dst (N := 8) rfl ?_); refine box_event ?hg (N := 8) ?hd (cs := #[.int .i64 0, .int .i64 0, .int .i64 0, .int .i64 0]) (t := 48) ?hr ?_; (case hd => rfl); (case hg => rfl); (case hr => first | (go_simp; done) | (go_simp; rfl)); intro G4 hg w14 hbox hb; have G6 := zg HB hg; have G5 := zg HB hg; have E5 := zn E0 hg; have E6 := zn' E0 hg; have E7 := zn E1 hg; have E8 := zn' E1 hg; have E9 := zn E2 hg; have G0 := zn' E2 hg; have G1 := zn E3 hg; have G2 := zn' E3 hg; have n0_ := Aside0.mk (hbox); replace E0 := zk E0 hb; replace E1 := zk E1 hb; replace E2 := zk E2 hb; replace E3 := zk E3 hb; replace HB := zb HB hb; have E4 := n0_; clear n0_; clear hb hbox hg; have E0R := E5.out; have E0S := E6.out; obtain ⟨E0T, E0U⟩ := zq1 E0; have E0V := E7.out; have E0W := E8.out; obtain ⟨E0X, E0Y⟩ := zq1 E1; have E0Z := E9.out; have E1a := G0.out; obtain ⟨E1b, E1c, E1d, E1e, E1f, E1g⟩ := zq3 E2; have p869 : 0 ≤ ((G3) : Int) := of_decide_eq_true (by first | (with_reducible assumption) | assumption); have q869 : (G3) < (l4_2.length : Int) := of_decide_eq_true (by first | (with_reducible assumption) | assumption); obtain ⟨E1h, e869, G9, V0, V1, V2⟩ := at_T48 Y2.out (G3) p869 q869; cases e869; replace G9 := (HB.out.cell (World.block_lt_of_cell? w _ G9)).trans G9; replace V0 := (HB.out.cell (World.block_lt_of_cell? w _ V0)).trans V0; replace V1 := (HB.out.cell (World.block_lt_of_cell? w _ V1)).trans V1; replace V2 := (HB.out.cell (World.block_lt_of_cell? w _ V2)).trans V2; replace p869 := eq_true p869; replace q869 := eq_true q869; have E1i := G2.out; have E1j := G1.out; obtain ⟨E1k, E1l, E1m, E1n, E1o, E1p, E1q, E1r⟩ := zq4 E4))
   repeat (go_quiet (first | ((with_reducible refine gate_dst (N := 8) rfl ?_); refine box_event ?hg (N := 8) ?hd (cs := #[.int .i64 0, .int .i64 0, .int .i64 0, .int .i64 0]) (t := 48) ?hr ?_; (case hd => rfl); (case hg => rfl); (case hr => first | (go_simp; done) | (go_simp; rfl)); intro G4 hg w14 hbox hb; have G6 := zg HB hg; have G5 := zg HB hg; have E5 := zn E0 hg; have E6 := zn' E0 hg; have E7 := zn E1 hg; have E8 := zn' E1 hg; have E9 := zn E2 hg; have G0 := zn' E2 hg; have G1 := zn E3 hg; have G2 := zn' E3 hg; have n0_ := Aside0.mk (hbox); replace E0 := zk E0 hb; replace E1 := zk E1 hb; replace E2 := zk E2 hb; replace E3 := zk E3 hb; replace HB := zb HB hb; have E4 := n0_; clear n0_; clear hb hbox hg; have E0R := E5.out; have E0S := E6.out; obtain ⟨E0T, E0U⟩ := zq1 E0; have E0V := E7.out; have E0W := E8.out; obtain ⟨E0X, E0Y⟩ := zq1 E1; have E0Z := E9.out; have E1a := G0.out; obtain ⟨E1b, E1c, E1d, E1e, E1f, E1g⟩ := zq3 E2; have p869 : 0 ≤ ((G3) : Int) := of_decide_eq_true (by first | (with_reducible assumption) | assumption); have q869 : (G3) < (l4_2.length : Int) := of_decide_eq_true (by first | (with_reducible assumption) | assumption); obtain ⟨E1h, e869, G9, V0, V1, V2⟩ := at_T48 Y2.out (G3) p869 q869; cases e869; replace G9 := (HB.out.cell (World.block_lt_of_cell? w _ G9)).trans G9; replace V0 := (HB.out.cell (World.block_lt_of_cell? w _ V0)).trans V0; replace V1 := (HB.out.cell (World.block_lt_of_cell? w _ V1)).trans V1; replace V2 := (HB.out.cell (World.block_lt_of_cell? w _ V2)).trans V2; replace p869 := eq_true p869; replace q869 := eq_true q869; have E1i := G2.out; have E1j := G1.out; obtain ⟨E1k, E1l, E1m, E1n, E1o, E1p, E1q, E1r⟩ := zq4 E4)); try go_wp2_with (first | ((with_reducible refine gate_dst (N := 8) rfl ?_); refine box_event ?hg (N := 8) ?hd (cs := #[.int .i64 0, .int .i64 0, .int .i64 0, .int .i64 0]) (t := 48) ?hr ?_; (case hd => rfl); (case hg => rfl); (case hr => first | (go_simp; done) | (go_simp; rfl)); intro G4 hg w14 hbox hb; have G6 := zg HB hg; have G5 := zg HB hg; have E5 := zn E0 hg; have E6 := zn' E0 hg; have E7 := zn E1 hg; have E8 := zn' E1 hg; have E9 := zn E2 hg; have G0 := zn' E2 hg; have G1 := zn E3 hg; have G2 := zn' E3 hg; have n0_ := Aside0.mk (hbox); replace E0 := zk E0 hb; replace E1 := zk E1 hb; replace E2 := zk E2 hb; replace E3 := zk E3 hb; replace HB := zb HB hb; have E4 := n0_; clear n0_; clear hb hbox hg; have E0R := E5.out; have E0S := E6.out; obtain ⟨E0T, E0U⟩ := zq1 E0; have E0V := E7.out; have E0W := E8.out; obtain ⟨E0X, E0Y⟩ := zq1 E1; have E0Z := E9.out; have E1a := G0.out; obtain ⟨E1b, E1c, E1d, E1e, E1f, E1g⟩ := zq3 E2; have p869 : 0 ≤ ((G3) : Int) := of_decide_eq_true (by first | (with_reducible assumption) | assumption); have q869 : (G3) < (l4_2.length : Int) := of_decide_eq_true (by first | (with_reducible assumption) | assumption); obtain ⟨E1h, e869, G9, V0, V1, V2⟩ := at_T48 Y2.out (G3) p869 q869; cases e869; replace G9 := (HB.out.cell (World.block_lt_of_cell? w _ G9)).trans G9; replace V0 := (HB.out.cell (World.block_lt_of_cell? w _ V0)).trans V0; replace V1 := (HB.out.cell (World.block_lt_of_cell? w _ V1)).trans V1; replace V2 := (HB.out.cell (World.block_lt_of_cell? w _ V2)).trans V2; replace p869 := eq_true p869; replace q869 := eq_true q869; have E1i := G2.out; have E1j := G1.out; obtain ⟨E1k, E1l, E1m, E1n, E1o, E1p, E1q, E1r⟩ := zq4 E4)))
   refine bodyPost_ret (results_cell_row rfl _ _ G4 48 #[.int .i64 ((rd_T48 l4_2 (G3)).f0), .int .i64 ((rd_T48 l4_2 (G3)).f1), .int .i64 ((rd_T48 l4_2 (G3)).f2), .int .i64 ((rd_T48 l4_2 (G3)).f3)] (0, 0) _ rfl (by exact zp E4 rfl) Try.underlying48 rfl (by kernel_rfl)) rfl ?_
   exact ⟨by first | rfl | (simp [errW_none, errW_some] <;> rfl) | (simp only [← V7]; first | rfl | (simp [errW_none, errW_some] <;> rfl)) | (simp [*, errW_none, errW_some] <;> rfl), by exact zbo HB G5⟩
  rw [if_neg c13] at H
  exact absurd H (by simp)
 rw [if_neg c10] at H
 have E2b : decide ((wrap64 (a1 - a3_0)) < a4_1) = false := decide_eq_false c10
 clear c10
 replace H := Option.bind_eq_some_iff.mp H
 obtain ⟨⟨t870, t871, t872, t873⟩, A230, H⟩ := H
 try dsimp only at H
 have A23 := Aside0.mk A230
 clear A230
 simp only [Option.some.injEq, Prod.mk.injEq] at H
 obtain ⟨rfl, rfl, rfl, rfl⟩ := H
 go_enter Try.func64, Try.ntmps64
 go_wp2_with (first | ((with_reducible refine gate_dst (N := 8) rfl ?_); refine box_event ?hg (N := 8) ?hd (cs := #[.int .i64 0, .int .i64 0, .int .i64 0, .int .i64 0]) (t := 48) ?hr ?_; (case hd => rfl); (case hg => rfl); (case hr => first | (go_simp; done) | (go_simp; rfl)); intro G4 hg w24 hbox hb; have G6 := zg HB hg; have G5 := zg HB hg; have E5 := zn E0 hg; have E6 := zn' E0 hg; have E7 := zn E1 hg; have E8 := zn' E1 hg; have E9 := zn E2 hg; have G0 := zn' E2 hg; have G1 := zn E3 hg; have G2 := zn' E3 hg; have n0_ := Aside0.mk (hbox); replace E0 := zk E0 hb; replace E1 := zk E1 hb; replace E2 := zk E2 hb; replace E3 := zk E3 hb; replace HB := zb HB hb; have E4 := n0_; clear n0_; clear hb hbox hg; have E1s := E5.out; have E1t := E6.out; obtain ⟨E1u, E1v⟩ := zq1 E0; have E1w := E7.out; have E1x := E8.out; obtain ⟨E1y, E1z⟩ := zq1 E1; have E1A := E9.out; have E1B := G0.out; obtain ⟨E1C, E1D, E1E, E1F, E1G, E1H⟩ := zq3 E2; have E1I := G1.out; have E1J := G2.out; obtain ⟨E1K, E1L, E1M, E1N, E1O, E1P⟩ := zq3 E3) | (go_at_call 59; (with_reducible refine (raster_get.calls a5_0 a5_1 _ _ l5_2 a0 a1 t870 t871 t872 t873 _ ?side1 ?side2 A23.out).mono ?_); (case side1 => repeat (first | exact (Kd.C_below G7.out HB.out) | (with_reducible refine Kd.C_alloc ?_ _) | (with_reducible refine Kd.C_drewN ?_ _) | (with_reducible refine Kd.C_drew ?_))); (case side2 => exact G8.out); rintro e w33 ⟨rfl, hb⟩; replace E0 := zk E0 hb; replace E1 := zk E1 hb; replace E2 := zk E2 hb; replace E3 := zk E3 hb; replace E4 := zk E4 hb; replace HB := zb HB hb; (try clear hb); obtain ⟨E1Q, E1R, E1S, E1T, E1U, E1V, E1W, E1X⟩ := zq4 E4))
 repeat (go_quiet (first | ((with_reducible refine gate_dst (N := 8) rfl ?_); refine box_event ?hg (N := 8) ?hd (cs := #[.int .i64 0, .int .i64 0, .int .i64 0, .int .i64 0]) (t := 48) ?hr ?_; (case hd => rfl); (case hg => rfl); (case hr => first | (go_simp; done) | (go_simp; rfl)); intro G4 hg w24 hbox hb; have G6 := zg HB hg; have G5 := zg HB hg; have E5 := zn E0 hg; have E6 := zn' E0 hg; have E7 := zn E1 hg; have E8 := zn' E1 hg; have E9 := zn E2 hg; have G0 := zn' E2 hg; have G1 := zn E3 hg; have G2 := zn' E3 hg; have n0_ := Aside0.mk (hbox); replace E0 := zk E0 hb; replace E1 := zk E1 hb; replace E2 := zk E2 hb; replace E3 := zk E3 hb; replace HB := zb HB hb; have E4 := n0_; clear n0_; clear hb hbox hg; have E1s := E5.out; have E1t := E6.out; obtain ⟨E1u, E1v⟩ := zq1 E0; have E1w := E7.out; have E1x := E8.out; obtain ⟨E1y, E1z⟩ := zq1 E1; have E1A := E9.out; have E1B := G0.out; obtain ⟨E1C, E1D, E1E, E1F, E1G, E1H⟩ := zq3 E2; have E1I := G1.out; have E1J := G2.out; obtain ⟨E1K, E1L, E1M, E1N, E1O, E1P⟩ := zq3 E3) | (go_at_call 59; (with_reducible refine (raster_get.calls a5_0 a5_1 _ _ l5_2 a0 a1 t870 t871 t872 t873 _ ?side1 ?side2 A23.out).mono ?_); (case side1 => repeat (first | exact (Kd.C_below G7.out HB.out) | (with_reducible refine Kd.C_alloc ?_ _) | (with_reducible refine Kd.C_drewN ?_ _) | (with_reducible refine Kd.C_drew ?_))); (case side2 => exact G8.out); rintro e w33 ⟨rfl, hb⟩; replace E0 := zk E0 hb; replace E1 := zk E1 hb; replace E2 := zk E2 hb; replace E3 := zk E3 hb; replace E4 := zk E4 hb; replace HB := zb HB hb; (try clear hb); obtain ⟨E1Q, E1R, E1S, E1T, E1U, E1V, E1W, E1X⟩ := zq4 E4)); try go_wp2_with (first | ((with_reducible refine gate_dst (N := 8) rfl ?_); refine box_event ?hg (N := 8) ?hd (cs := #[.int .i64 0, .int .i64 0, .int .i64 0, .int .i64 0]) (t := 48) ?hr ?_; (case hd => rfl); (case hg => rfl); (case hr => first | (go_simp; done) | (go_simp; rfl)); intro G4 hg w24 hbox hb; have G6 := zg HB hg; have G5 := zg HB hg; have E5 := zn E0 hg; have E6 := zn' E0 hg; have E7 := zn E1 hg; have E8 := zn' E1 hg; have E9 := zn E2 hg; have G0 := zn' E2 hg; have G1 := zn E3 hg; have G2 := zn' E3 hg; have n0_ := Aside0.mk (hbox); replace E0 := zk E0 hb; replace E1 := zk E1 hb; replace E2 := zk E2 hb; replace E3 := zk E3 hb; replace HB := zb HB hb; have E4 := n0_; clear n0_; clear hb hbox hg; have E1s := E5.out; have E1t := E6.out; obtain ⟨E1u, E1v⟩ := zq1 E0; have E1w := E7.out; have E1x := E8.out; obtain ⟨E1y, E1z⟩ := zq1 E1; have E1A := E9.out; have E1B := G0.out; obtain ⟨E1C, E1D, E1E, E1F, E1G, E1H⟩ := zq3 E2; have E1I := G1.out; have E1J := G2.out; obtain ⟨E1K, E1L, E1M, E1N, E1O, E1P⟩ := zq3 E3) | (go_at_call 59; (with_reducible refine (raster_get.calls a5_0 a5_1 _ _ l5_2 a0 a1 t870 t871 t872 t873 _ ?side1 ?side2 A23.out).mono ?_); (case side1 => repeat (first | exact (Kd.C_below G7.out HB.out) | (with_reducible refine Kd.C_alloc ?_ _) | (with_reducible refine Kd.C_drewN ?_ _) | (with_reducible refine Kd.C_drew ?_))); (case side2 => exact G8.out); rintro e w33 ⟨rfl, hb⟩; replace E0 := zk E0 hb; replace E1 := zk E1 hb; replace E2 := zk E2 hb; replace E3 := zk E3 hb; replace E4 := zk E4 hb; replace HB := zb HB hb; (try clear hb); obtain ⟨E1Q, E1R, E1S, E1T, E1U, E1V, E1W, E1X⟩ := zq4 E4)))
 refine bodyPost_ret (results_cell_row rfl _ _ G4 48 #[.int .i64 t870, .int .i64 t871, .int .i64 t872, .int .i64 t873] (0, 0) _ rfl (by exact zp E4 rfl) Try.underlying48 rfl (by kernel_rfl)) rfl ?_
 exact ⟨by first | rfl | (simp [errW_none, errW_some] <;> rfl) | (simp [*, errW_none, errW_some] <;> rfl), by exact zbo HB G5⟩
end Go.Proofs.Ytnfbabmceddciaa.G
