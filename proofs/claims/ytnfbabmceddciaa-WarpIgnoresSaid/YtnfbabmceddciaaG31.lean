/- Contracts of functions of the program, each as it is called: what it computes (.f), that it computes no less with more rounds (.mono), and that a call returns just that (.calls). No conditions but those that each contract names. Written by a program of this session (wip/gx.py over the kit's print). -/
import Derived.Test.YtnfbabmceddciaaG0
import Derived.Test.YtnfbabmceddciaaG9
import Derived.Test.YtnfbabmceddciaaG30
namespace Go.Proofs.Ytnfbabmceddciaa.G
open Go.RowKit Go.Proofs.YtnfbabmceddciaaW.PrintWords Go.Proofs.YtnfbabmceddciaaW.PrintLast Go.Proofs.YtnfbabmceddciaaW.PrintMore
attribute [local go_sem] max2_int min2_int max_two min_two max_three min_three max_four min_four max_five min_five   -- for this text's walks alone
set_option linter.unusedVariables false
set_option linter.unusedSimpArgs false


/-! ### raster_fill__raster_Put_1: function 60 -/
mutual
def raster_fill__raster_Put_1.l0 : Nat → Int → Int → Int → Int → Int → Int → Int → List (S48) → Int → Int → List (S48) → Int → Int → List (S48) → Option (Int × Int × (List (S48)))
 | 0, _, _, _, _, _, _, _, _, _, _, _, _, _, _ => none
 | k + 1, x0, x17, x18, V0, V1, V2, V3, V4, V5, V6, V7, V8, V9, G2 => if x18 < x17 then (raster_fill__raster_Put_1.l1 k x0 x18 x17 x18 x0 0 V0 V1 V2 V3 V4 V5 V6 V7 V8 V9 G2) else (some (V8, V9, G2))
def raster_fill__raster_Put_1.l1 : Nat → Int → Int → Int → Int → Int → Int → Int → Int → Int → Int → List (S48) → Int → Int → List (S48) → Int → Int → List (S48) → Option (Int × Int × (List (S48)))
 | 0, _, _, _, _, _, _, _, _, _, _, _, _, _, _, _, _, _ => none
 | k + 1, x0, x8, x17, x18, x21, x22, V0, V1, V2, V3, V4, V5, V6, V7, V8, V9, G2 => if x22 < x21 then ((raster_Put_1.f x22 x8 V0 V1 V2 V3 V4 V5 V6 V7).bind fun Y0 => (if G2.length < 4398046511104 then (raster_fill__raster_Put_1.l1 k x0 x8 x17 x18 x21 (wrap64 (x22 + 1)) V0 V1 V2 V3 V4 V5 V6 V7 V8 V9 (G2 ++ [(⟨Y0.1, Y0.2.1, Y0.2.2.1, Y0.2.2.2⟩ : S48)])) else (none))) else (raster_fill__raster_Put_1.l0 k x0 x17 (wrap64 (x18 + 1)) V0 V1 V2 V3 V4 V5 V6 V7 V8 V9 G2)
end
def raster_fill__raster_Put_1.f (k : Nat) (a0 : Int) (a1 : Int) (a2_0 : Int) (a2_1 : Int) (a2_2 : Int) (a2_3 : Int) (l2_4 : List (S48)) (a2_5 : Int) (a2_6 : Int) (l2_7 : List (S48)) : Option (Int × Int × (List (S48))) := if 0 ≤ (wrap64 (a0 * a1)) then (if (wrap64 (a0 * a1) : Int).toNat ≤ 8796093022208 then (raster_fill__raster_Put_1.l0 k a0 a1 0 a2_0 a2_1 a2_2 a2_3 l2_4 a2_5 a2_6 l2_7 a0 a1 (([] : List (S48)))) else (none)) else (none)
theorem raster_fill__raster_Put_1.mono_l : ∀ k, (∀ y0 y1 y2 y3 y4 y5 y6 y7 y8 y9 y10 y11 y12 y13, LeO (raster_fill__raster_Put_1.l0 k y0 y1 y2 y3 y4 y5 y6 y7 y8 y9 y10 y11 y12 y13) (raster_fill__raster_Put_1.l0 (k + 1) y0 y1 y2 y3 y4 y5 y6 y7 y8 y9 y10 y11 y12 y13)) ∧ (∀ y0 y1 y2 y3 y4 y5 y6 y7 y8 y9 y10 y11 y12 y13 y14 y15 y16, LeO (raster_fill__raster_Put_1.l1 k y0 y1 y2 y3 y4 y5 y6 y7 y8 y9 y10 y11 y12 y13 y14 y15 y16) (raster_fill__raster_Put_1.l1 (k + 1) y0 y1 y2 y3 y4 y5 y6 y7 y8 y9 y10 y11 y12 y13 y14 y15 y16))
 | 0 => ⟨fun _ _ _ _ _ _ _ _ _ _ _ _ _ _ r h => by simp [raster_fill__raster_Put_1.l0] at h, fun _ _ _ _ _ _ _ _ _ _ _ _ _ _ _ _ _ r h => by simp [raster_fill__raster_Put_1.l1] at h⟩
 | k + 1 => by
  obtain ⟨ih0, ih1⟩ := raster_fill__raster_Put_1.mono_l k
  refine ⟨?_, ?_⟩
  ·intro y0 y1 y2 y3 y4 y5 y6 y7 y8 y9 y10 y11 y12 y13
   unfold raster_fill__raster_Put_1.l0
   repeat' first
   | (with_reducible exact ih0 _ _ _ _ _ _ _ _ _ _ _ _ _ _)
   | (with_reducible exact ih1 _ _ _ _ _ _ _ _ _ _ _ _ _ _ _ _ _)
   | (with_reducible exact LeO.refl _)
   | (with_reducible exact LeO.none _)
   | (with_reducible refine LeO.ite ?_ ?_)
   | (with_reducible refine LeO.bind ?_ (fun _ => ?_))
   | exact ih0 _ _ _ _ _ _ _ _ _ _ _ _ _ _
   | exact ih1 _ _ _ _ _ _ _ _ _ _ _ _ _ _ _ _ _
   | exact LeO.none _
   | refine LeO.ite ?_ ?_
   | refine LeO.bind ?_ (fun _ => ?_)
  ·intro y0 y1 y2 y3 y4 y5 y6 y7 y8 y9 y10 y11 y12 y13 y14 y15 y16
   unfold raster_fill__raster_Put_1.l1
   repeat' first
   | (with_reducible exact ih0 _ _ _ _ _ _ _ _ _ _ _ _ _ _)
   | (with_reducible exact ih1 _ _ _ _ _ _ _ _ _ _ _ _ _ _ _ _ _)
   | (with_reducible exact LeO.refl _)
   | (with_reducible exact LeO.none _)
   | (with_reducible refine LeO.ite ?_ ?_)
   | (with_reducible refine LeO.bind ?_ (fun _ => ?_))
   | exact ih0 _ _ _ _ _ _ _ _ _ _ _ _ _ _
   | exact ih1 _ _ _ _ _ _ _ _ _ _ _ _ _ _ _ _ _
   | exact LeO.none _
   | refine LeO.ite ?_ ?_
   | refine LeO.bind ?_ (fun _ => ?_)
theorem raster_fill__raster_Put_1.mono : ∀ a0 a1 a2 a3 a4 a5 a6 a7 a8 a9 k, LeO (raster_fill__raster_Put_1.f k a0 a1 a2 a3 a4 a5 a6 a7 a8 a9) (raster_fill__raster_Put_1.f (k + 1) a0 a1 a2 a3 a4 a5 a6 a7 a8 a9) := by
 intro a0 a1 a2 a3 a4 a5 a6 a7 a8 a9 k
 obtain ⟨ih0, ih1⟩ := raster_fill__raster_Put_1.mono_l k
 unfold raster_fill__raster_Put_1.f
 repeat' first
   | (with_reducible exact ih0 _ _ _ _ _ _ _ _ _ _ _ _ _ _)
   | (with_reducible exact ih1 _ _ _ _ _ _ _ _ _ _ _ _ _ _ _ _ _)
   | (with_reducible exact LeO.refl _)
   | (with_reducible exact LeO.none _)
   | (with_reducible refine LeO.ite ?_ ?_)
   | (with_reducible refine LeO.bind ?_ (fun _ => ?_))
   | exact ih0 _ _ _ _ _ _ _ _ _ _ _ _ _ _
   | exact ih1 _ _ _ _ _ _ _ _ _ _ _ _ _ _ _ _ _
   | exact LeO.none _
   | refine LeO.ite ?_ ?_
   | refine LeO.bind ?_ (fun _ => ?_)
def raster_fill__raster_Put_1.T8 : Bool × List (List Nat × List Nat) := (true, [([], []), ([0], [0]), ([], []), ([], []), ([], []), ([2, 3, 4], [2, 3, 4]), ([5], [5]), ([1, 6, 5], [1, 6]), ([0, 1, 2, 3, 4, 5, 6, 7], []), ([8, 7, 7, 0, 1, 2, 3, 4, 5, 6, 7], [7, 8])])
def raster_fill__raster_Put_1.B8 : List Nat := [0, 1, 0, 0, 0, 28, 60, 127, 255, 511]
theorem raster_fill__raster_Put_1.tab8 : rtab .any (opsOf Try.f60 8) = raster_fill__raster_Put_1.T8 := by kernel_rfl
theorem raster_fill__raster_Put_1.bits8 : waitsOk raster_fill__raster_Put_1.T8.2 raster_fill__raster_Put_1.B8 = true := by kernel_rfl
set_option maxHeartbeats 8000000 in
set_option maxRecDepth 100000 in
theorem raster_fill__raster_Put_1.calls (k : Nat) (a0 : Int) (a1 : Int) (E8 : Nat) (E9 : Nat) (G0 : Nat) (G1 : Nat) (a2_0 : Int) (a2_1 : Int) (a2_2 : Int) (a2_3 : Int) (A2_4 : Option Addr) (c2_4 : Nat) (l2_4 : List (S48)) (a2_5 : Int) (a2_6 : Int) (A2_7 : Option Addr) (c2_7 : Nat) (l2_7 : List (S48)) (r1 : Int) (r2 : Int) (r3 : List (S48)) (w : World) (hp2_0 : w.heap[E8]? = some (.cells #[.int .i64 a2_0] 3 (0, 0))) (hp2_1 : w.heap[E9]? = some (.cells #[.int .i64 a2_1] 3 (0, 0))) (hp2_2 : w.heap[G0]? = some (.cells #[.int .i64 a2_2, .int .i64 a2_3, .slice A2_4 l2_4.length c2_4] 40 (0, 0))) (hp2_3 : w.heap[G1]? = some (.cells #[.int .i64 a2_5, .int .i64 a2_6, .slice A2_7 l2_7.length c2_7] 40 (0, 0))) (hr2_4 : Kd.C k48 w A2_4 l2_4.length l2_4) (hc2_4 : l2_4.length ≤ c2_4) (hr2_7 : Kd.C k48 w A2_7 l2_7.length l2_7) (hc2_7 : l2_7.length ≤ c2_7) (h : raster_fill__raster_Put_1.f k a0 a1 a2_0 a2_1 a2_2 a2_3 l2_4 a2_5 a2_6 l2_7 = some (r1, r2, r3)) :
  Calls Try.prog 60 #[.int .i64 a0, .int .i64 a1, .func (.func 64) #[] #[.pointer (some ⟨E8, 0, none⟩), .pointer (some ⟨E9, 0, none⟩), .pointer (some ⟨G0, 0, none⟩), .pointer (some ⟨G1, 0, none⟩)]] w fun e w' => ∃ v2_ : Value, e = .returned (.agg #[.int .i64 r1, .int .i64 r2, v2_]) ∧ Kd.R k48 48 w' w.heap.size (fun _ => True) v2_ r3 ∧ Below w.heap.size w w' := by
 have hu40 := Try.underlying40
 have Z9 := Aside0.mk hr2_4
 have J0 := Aside0.mk hc2_4
 clear hr2_4 hc2_4
 have J1 := Aside0.mk hr2_7
 have J2 := Aside0.mk hc2_7
 clear hr2_7 hc2_7
 have E1 := Aside0.mk hp2_0
 have GL886 := Aside0.mk (show E8 < w.heap.size from blk_lt hp2_0)
 clear hp2_0
 have E2 := Aside0.mk hp2_1
 have GL887 := Aside0.mk (show E9 < w.heap.size from blk_lt hp2_1)
 clear hp2_1
 have E3 := Aside0.mk hp2_2
 have GL888 := Aside0.mk (show G0 < w.heap.size from blk_lt hp2_2)
 clear hp2_2
 have E4 := Aside0.mk hp2_3
 have GL889 := Aside0.mk (show G1 < w.heap.size from blk_lt hp2_3)
 clear hp2_3
 have HB := Aside0.mk (Below.refl w.heap.size w)
 have H : (if 0 ≤ (wrap64 (a0 * a1)) then (if (wrap64 (a0 * a1) : Int).toNat ≤ 8796093022208 then (raster_fill__raster_Put_1.l0 k a0 a1 0 a2_0 a2_1 a2_2 a2_3 l2_4 a2_5 a2_6 l2_7 a0 a1 (([] : List (S48)))) else (none)) else (none)) = some (r1, r2, r3) := h
 clear h
 obtain ⟨E7, G3⟩ : ∃ j_ : Int, (wrap64 (a0 * a1)) = j_ := ⟨_, rfl⟩
 replace H : (if 0 ≤ (E7) then (if (E7 : Int).toNat ≤ 8796093022208 then (raster_fill__raster_Put_1.l0 k a0 a1 0 a2_0 a2_1 a2_2 a2_3 l2_4 a2_5 a2_6 l2_7 a0 a1 (([] : List (S48)))) else (none)) else (none)) = some (r1, r2, r3) := by first | (rw [G3] at H; exact H) | (simp only [G3] at H ⊢; exact H)
 have L3 : (IntKind.i64.wrap (a0 * a1)) = E7 := (i64_w _).trans G3
 by_cases c5 : 0 ≤ (E7)
 rotate_left
 ·rw [if_neg c5] at H
  exact absurd H (by simp)

 rw [if_pos c5] at H
 have Y8 := eq_true c5
 have Y9 : decide (0 ≤ (E7)) = true := decide_eq_true c5
 clear c5
 by_cases c6 : (E7 : Int).toNat ≤ 8796093022208
 rotate_left
 ·rw [if_neg c6] at H
  exact absurd H (by simp)
 rw [if_pos c6] at H
 have Z0 := eq_true c6
 have Z1 : decide ((E7 : Int).toNat ≤ 8796093022208) = true := decide_eq_true c6
 clear c6
 obtain ⟨y891, hy891⟩ : ∃ y_ : List (S48), y_ = (([] : List (S48))) := ⟨_, rfl⟩
 replace H : (raster_fill__raster_Put_1.l0 k a0 a1 0 a2_0 a2_1 a2_2 a2_3 l2_4 a2_5 a2_6 l2_7 a0 a1 y891) = some (r1, r2, r3) := by first | (rw [hy891]; with_reducible exact H) | (have H2_ := (Option.bind_some _ _).symm.trans H; rw [hy891]; with_reducible exact H2_) | (have H2_ := (Option.bind_some _ _).symm.trans H; with_reducible exact H2_) | with_reducible exact H | (rw [hy891]; exact H) | exact H
 have Ny891 := Aside0.mk hy891
 clear hy891
 have H' := Aside0.mk H
 clear H
 go_enter Try.func60, Try.ntmps60
 go_wp2_with (first | ((with_reducible refine gate_dst (N := 6) rfl ?_); refine box_event ?hg (N := 6) ?hd (cs := #[.int .i64 0, .int .i64 0, .slice none 0 0]) (t := 40) ?hr ?_; (case hd => rfl); (case hg => rfl); (case hr => first | (go_simp; done) | (go_simp; rfl)); intro Y1 hg w7 hbox hb; have L4 := zg HB hg; have J3 := zg HB hg; have J4 := zn E1 hg; have J5 := zn' E1 hg; have J6 := zn E2 hg; have J7 := zn' E2 hg; have J8 := zn E3 hg; have J9 := zn' E3 hg; have L0 := zn E4 hg; have L1 := zn' E4 hg; have n0_ := Aside0.mk (hbox); replace E1 := zk E1 hb; replace E2 := zk E2 hb; replace E3 := zk E3 hb; replace E4 := zk E4 hb; replace HB := zb HB hb; have E5 := n0_; clear n0_; clear hb hbox hg) | ((with_reducible refine gate_dst (N := 15) rfl ?_); refine Kd.R_make0 k48 _ 48 rfl (N := 15) rfl 38 _ _ rfl E7 rfl rfl Try.underlying38 (.agg #[(.int .i64 0), (.int .i64 0), (.int .i64 0), (.int .i64 0)]) 32 info48 rfl (by decide) (by omega) z48 (ok := fun _ => True) (okp := fun _ => True) (k48_mkM _ _ _ z48 ) (fun _ hk => hk) trivial (of_decide_eq_true (by first | (with_reducible assumption) | assumption)) (Nat.le_trans (Nat.mul_le_mul_right _ (of_decide_eq_true (by first | (with_reducible assumption) | assumption) : E7.toNat ≤ 8796093022208)) (by omega)) (Below.refl _ _) (Nat.le_refl _) ?_; intro v892 w8 ho9 hb hg_ hnew_; clear hg_ hnew_; (first | rw [← Ny891.out] at ho9 | (simp only [Int.reduceToNat] at ho9; rw [← Ny891.out] at ho9)); have HO893 := zl HB ho9; replace E1 := zk E1 hb; replace E2 := zk E2 hb; replace E3 := zk E3 hb; replace E4 := zk E4 hb; replace E5 := zk E5 hb; replace HB := zb HB hb; clear hb ho9; obtain ⟨Ao10, co10, eo10⟩ := Kd.R_slice HO893.out; subst eo10) | ((with_reducible refine gate_dst (N := 7) rfl ?_); refine box_event ?hg (N := 7) ?hd (cs := #[.int .i64 0, .int .i64 0, .slice none 0 0]) (t := 40) ?hr ?_; (case hd => rfl); (case hg => rfl); (case hr => first | (go_simp; done) | (go_simp; rfl)); intro G4 hg w11 hbox hb; have L5 := zg HB hg; have Y2 := zg HB hg; have G5 := zn E1 hg; have Y3 := zn' E1 hg; have G6 := zn E2 hg; have Y4 := zn' E2 hg; have G7 := zn E3 hg; have Y5 := zn' E3 hg; have G8 := zn E4 hg; have Y6 := zn' E4 hg; have G9 := zn E5 hg; have Y7 := zn' E5 hg; have n0_ := Aside0.mk (hbox); replace HO893 := zr HO893 hb; replace E1 := zk E1 hb; replace E2 := zk E2 hb; replace E3 := zk E3 hb; replace E4 := zk E4 hb; replace E5 := zk E5 hb; replace HB := zb HB hb; have E0 := n0_; clear n0_; clear hb hbox hg; have L6 := Y3.out; have L7 := G5.out; have L8 := Y4.out; have L9 := G6.out; have Q0 := Y5.out; have Q1 := G7.out; have Q2 := Y6.out; have Q3 := G8.out; have Q4 := Y7.out; have Q5 := G9.out; obtain ⟨Z2, Z3, Z4, Z5, Z6, Z7⟩ := zq3 E0))
 (try simp only [Act.put, sA, sB, sC])
 go_loopg [18] k (fun kq v18 w' => ∃ (x18_1 : Int) (x895002_1 : List (S48)) (u895002 : Value), v18 = .int .i64 x18_1 ∧ Aside0 (raster_fill__raster_Put_1.l0 kq a0 a1 x18_1 a2_0 a2_1 a2_2 a2_3 l2_4 a2_5 a2_6 l2_7 a0 a1 x895002_1 = some (r1, r2, r3)) ∧ Aside0 (kq ≤ k) ∧ Aside0 (Kd.R k48 48 w' w.heap.size (fun _ => True) u895002 x895002_1) ∧ Aside0 (w'.heap[E8]? = some (.cells #[.int .i64 a2_0] 3 (0, 0))) ∧ Aside0 (w'.heap[E9]? = some (.cells #[.int .i64 a2_1] 3 (0, 0))) ∧ Aside0 (w'.heap[G0]? = some (.cells #[.int .i64 a2_2, .int .i64 a2_3, (.slice A2_4 l2_4.length c2_4)] 40 (0, 0))) ∧ Aside0 (w'.heap[G1]? = some (.cells #[.int .i64 a2_5, .int .i64 a2_6, (.slice A2_7 l2_7.length c2_7)] 40 (0, 0))) ∧ Aside0 (w'.heap[Y1]? = some (.cells #[.int .i64 0, .int .i64 0, (.slice none 0 0)] 40 (0, 0))) ∧ Aside0 (w'.heap[G4]? = some (.cells #[.int .i64 a0, .int .i64 a1, u895002] 40 (0, 0))) ∧ Aside0 (Below w.heap.size w w'))
 case atStart => exact ⟨(0), (y891), (.slice Ao10 y891.length co10), (by first | rfl | (simp; done) | (simp [*]; done)), H', ⟨Nat.le_refl _⟩, ⟨by exact zro HO893 E0 (by decide)⟩, ⟨by exact zf E1 G5⟩, ⟨by exact zf E2 G6⟩, ⟨by exact zf E3 G7⟩, ⟨by exact zf E4 G8⟩, ⟨by exact zf E5 G9⟩, ⟨by exact zp E0 rfl⟩, ⟨by exact zbo HB Y2⟩⟩
 case round =>
  clear H'
  try clear c1
  try clear c2
  try clear p2
  try clear q3
  try clear c5
  try clear Y8
  try clear Y9
  try clear c6
  try clear Z0
  try clear Z1
  try clear p6
  try clear c12
  try clear c13
  try clear c14
  try clear c15
  try clear c16
  try clear Z2
  try clear Z3
  try clear Z4
  try clear Z5
  try clear Z6
  try clear Z7
  obtain ⟨x18_1, x895002_1, u895002, rfl, HA, HK1, E6, E1, E2, E3, E4, E5, E0, HB⟩ := hrel
  cases gk with
  | zero => exact absurd HA.out (by simp [raster_fill__raster_Put_1.l0])
  | succ k1 =>
   have H := HA.out
   clear HA
   simp only [raster_fill__raster_Put_1.l0] at H
   by_cases c18 : x18_1 < a1
   rotate_left
   ·rw [if_neg c18] at H
    have Z8 : decide (x18_1 < a1) = false := decide_eq_false c18
    clear c18
    simp only [Option.some.injEq, Prod.mk.injEq] at H
    obtain ⟨rfl, rfl, rfl⟩ := H
    have Q6 := Y3.out
    have Q7 := G5.out
    have Q8 := Y4.out
    have Q9 := G6.out
    have E0a := Y5.out
    have E0b := G7.out
    have E0c := Y6.out
    have E0d := G8.out
    have E0e := Y7.out
    have E0f := G9.out
    obtain ⟨E0g, E0h, E0i, E0j, E0k, E0l⟩ := zq3 E0
    have E0m := J5.out
    have E0n := J4.out
    have E0o := J7.out
    have E0p := J6.out
    have E0q := J9.out
    have E0r := J8.out
    have E0s := L1.out
    have E0t := L0.out
    obtain ⟨E0u, E0v, E0w, E0x, E0y, E0z⟩ := zq3 E5
    obtain ⟨Ao38, co38, eo38⟩ := Kd.R_slice E6.out
    subst eo38
    go_wp2
    refine bodyPost_ret (results_cell_row rfl _ _ Y1 40 #[.int .i64 a0, .int .i64 a1, .slice Ao38 x895002_1.length co38] (0, 0) _ rfl (by exact zp E5 rfl) Try.underlying40 rfl (by kernel_rfl)) rfl ?_
    exact ⟨_, by first | rfl | (simp [errW_none, errW_some] <;> rfl) | (simp only [← G3]; first | rfl | (simp [errW_none, errW_some] <;> rfl)) | (simp [*, errW_none, errW_some] <;> rfl), by exact zro E6 E5 (by decide), by exact zbo HB J3⟩
   rw [if_pos c18] at H
   have Z8 : decide (x18_1 < a1) = true := decide_eq_true c18
   clear c18
   have H' := Aside0.mk H
   clear H
   go_wp2
   go_loopg [22] k1 (fun kq v22 w' => ∃ (x22_2 : Int) (x895002_2 : List (S48)) (u895002 : Value), v22 = .int .i64 x22_2 ∧ Aside0 (raster_fill__raster_Put_1.l1 kq a0 x18_1 a1 x18_1 a0 x22_2 a2_0 a2_1 a2_2 a2_3 l2_4 a2_5 a2_6 l2_7 a0 a1 x895002_2 = some (r1, r2, r3)) ∧ Aside0 (kq ≤ k1) ∧ Aside0 (Kd.R k48 48 w' w.heap.size (fun _ => True) u895002 x895002_2) ∧ Aside0 (w'.heap[E8]? = some (.cells #[.int .i64 a2_0] 3 (0, 0))) ∧ Aside0 (w'.heap[E9]? = some (.cells #[.int .i64 a2_1] 3 (0, 0))) ∧ Aside0 (w'.heap[G0]? = some (.cells #[.int .i64 a2_2, .int .i64 a2_3, (.slice A2_4 l2_4.length c2_4)] 40 (0, 0))) ∧ Aside0 (w'.heap[G1]? = some (.cells #[.int .i64 a2_5, .int .i64 a2_6, (.slice A2_7 l2_7.length c2_7)] 40 (0, 0))) ∧ Aside0 (w'.heap[Y1]? = some (.cells #[.int .i64 0, .int .i64 0, (.slice none 0 0)] 40 (0, 0))) ∧ Aside0 (w'.heap[G4]? = some (.cells #[.int .i64 a0, .int .i64 a1, u895002] 40 (0, 0))) ∧ Aside0 (Below w.heap.size w w'))
   case atStart => exact ⟨(0), (x895002_1), (u895002), (by first | rfl | (simp; done) | (simp [*]; done)), H', ⟨Nat.le_refl _⟩, ⟨by exact zr0 E6⟩, ⟨by exact zk0 E1⟩, ⟨by exact zk0 E2⟩, ⟨by exact zk0 E3⟩, ⟨by exact zk0 E4⟩, ⟨by exact zk0 E5⟩, ⟨by exact zk0 E0⟩, ⟨by exact zb0 HB⟩⟩
   case round =>
    clear H'
    try clear c1
    try clear c2
    try clear p2
    try clear q3
    try clear c5
    try clear Y8
    try clear Y9
    try clear c6
    try clear Z0
    try clear Z1
    try clear p6
    try clear c12
    try clear c13
    try clear c14
    try clear c15
    try clear c16
    try clear c18
    try clear Z8
    try clear Z2
    try clear Z3
    try clear Z4
    try clear Z5
    try clear Z6
    try clear Z7
    try clear p2
    try clear p6
    try clear q3
    obtain ⟨x22_2, x895002_2, u895002, rfl, HA, HK2, E6, E1, E2, E3, E4, E5, E0, HB⟩ := hrel
    cases gk with
    | zero => exact absurd HA.out (by simp [raster_fill__raster_Put_1.l1])
    | succ k2 =>
     have H := HA.out
     clear HA
     simp only [raster_fill__raster_Put_1.l1] at H
     by_cases c19 : x22_2 < a0
     rotate_left
     ·rw [if_neg c19] at H
      have L2 : decide (x22_2 < a0) = false := decide_eq_false c19
      clear c19
      have H' := Aside0.mk H
      clear H
      go_wp2
      first | go_roundg k2 | ((try subst G3); go_roundg k2)
      case measure => have := HK1.out; have := HK2.out; omega
      case rel => first | (exact ⟨(wrap64 (x18_1 + 1)), (x895002_2), (u895002), (by first | rfl | (simp; done) | (simp [*]; done)), H', ⟨by have := HK1.out; have := HK2.out; omega⟩, ⟨by exact zr0 E6⟩, ⟨by exact zk0 E1⟩, ⟨by exact zk0 E2⟩, ⟨by exact zk0 E3⟩, ⟨by exact zk0 E4⟩, ⟨by exact zk0 E5⟩, ⟨by exact zk0 E0⟩, ⟨by exact zb0 HB⟩⟩) | (exact ⟨(wrap64 (x18_1 + 1)), (x895002_2), (u895002), (by first | rfl | (simp; done) | (simp [*]; done)), H', ⟨by have := HK1.out; have := HK2.out; omega⟩, ⟨by exact zr0 E6⟩, ⟨by exact zk0 E1⟩, ⟨by exact zk0 E2⟩, ⟨by exact zk0 E3⟩, ⟨by exact zk0 E4⟩, ⟨by exact zk0 E5⟩, ⟨by exact zk0 E0⟩, ⟨by exact zb0 HB⟩⟩)
     rw [if_pos c19] at H
     have L2 : decide (x22_2 < a0) = true := decide_eq_true c19
     clear c19
     replace H := Option.bind_eq_some_iff.mp H
     obtain ⟨⟨t895, t896, t897, t898⟩, A200, H⟩ := H
     try dsimp only at H
     have A20 := Aside0.mk A200
     clear A200
     by_cases c21 : x895002_2.length < 4398046511104
     rotate_left
     ·rw [if_neg c21] at H
      exact absurd H (by simp)
     rw [if_pos c21] at H
     have LMc21 := Aside0.mk c21
     clear c21
     obtain ⟨y899, hy899⟩ : ∃ y_ : List (S48), y_ = (x895002_2 ++ [(⟨t895, t896, t897, t898⟩ : S48)]) := ⟨_, rfl⟩
     replace H : (raster_fill__raster_Put_1.l1 k2 a0 x18_1 a1 x18_1 a0 (wrap64 (x22_2 + 1)) a2_0 a2_1 a2_2 a2_3 l2_4 a2_5 a2_6 l2_7 a0 a1 y899) = some (r1, r2, r3) := by first | (rw [hy899]; with_reducible exact H) | (have H2_ := (Option.bind_some _ _).symm.trans H; rw [hy899]; with_reducible exact H2_) | (have H2_ := (Option.bind_some _ _).symm.trans H; with_reducible exact H2_) | with_reducible exact H | (rw [hy899]; exact H) | exact H
     have Ny899 := Aside0.mk hy899
     clear hy899
     have H' := Aside0.mk H
     clear H
     try go_wp2
     replace E6 := zrd E6
     replace E1 := zkd E1
     replace E2 := zkd E2
     replace E3 := zkd E3
     replace E4 := zkd E4
     replace E5 := zkd E5
     replace E0 := zkd E0
     replace HB := zbd HB
     refine start_ (n := 10) (S := fun w' => w'.cell? ⟨G4, 0, none⟩ = some (.int .i64 a0) ∧ w'.cell? ⟨G4, 1, none⟩ = some (.int .i64 a1) ∧ w'.cell? ⟨G4, 2, none⟩ = some (u895002)) (ds := [9]) (bs 10 0) (by kernel_rfl) rfl rfl ⟨(blk_cell E0.out 0).trans rfl, (blk_cell E0.out 1).trans rfl, (blk_cell E0.out 2).trans rfl⟩ (fun hHeld => ?_); refine with_tabW raster_fill__raster_Put_1.tab8 raster_fill__raster_Put_1.bits8 (fun HT_ HW_ => ?_)
     generalize wr.drew = w22 at E6 E1 E2 E3 E4 E5 E0 HB hHeld ⊢
     refine pure_ (i := 0) (N := some 25) (v := ?_) (a' := ?_) (bs 10 1) rfl rfl (any_of HT_.out (by kernel_rfl)) (fun _ _ _ h => h) (Or.inl ⟨by rfl, ?_⟩) ?_ ?_
     rotate_left
     ·intro w'
      go_simp
      with_reducible rfl
     rotate_left
     ·simp only [Act.put, sA, sB, sC, i64_w, i32_w]
      rfl
     refine pure_ (i := 2) (N := some 27) (v := ?_) (a' := ?_) (bs 10 5) rfl rfl (any_of HT_.out (by kernel_rfl)) (fun _ _ _ h => h) (Or.inl ⟨by rfl, ?_⟩) ?_ ?_
     rotate_left
     ·intro w'
      go_simp
      with_reducible rfl
     rotate_left
     ·simp only [Act.put, sA, sB, sC, i64_w, i32_w]
      rfl
     refine pure_ (i := 3) (N := some 28) (v := ?_) (a' := ?_) (bs 10 13) rfl rfl (any_of HT_.out (by kernel_rfl)) (fun _ _ _ h => h) (Or.inl ⟨by rfl, ?_⟩) ?_ ?_
     rotate_left
     ·intro w'
      go_simp
      with_reducible rfl
     rotate_left
     ·simp only [Act.put, sA, sB, sC, i64_w, i32_w]
      rfl
     refine pure_ (i := 4) (N := some 29) (v := ?_) (a' := ?_) (bs 10 29) rfl rfl (any_of HT_.out (by kernel_rfl)) (fun _ _ _ h => h) (Or.inl ⟨by rfl, ?_⟩) ?_ ?_
     rotate_left
     ·intro w'
      go_simp
      with_reducible rfl
     rotate_left
     ·simp only [Act.put, sA, sB, sC, i64_w, i32_w]
      rfl
     refine take_ (i := 1) (N := some 26) (v := ?_) (a' := ?_) (bs 10 31) rfl rfl (take_ofW HT_.out HW_.out (by kernel_rfl)) (fun _ _ _ h => h) (Or.inl ⟨by rfl, ?_⟩) hHeld ?_ ?_
     rotate_left
     ·rintro w' ⟨s0, s1, s2⟩
      go_simp
      with_reducible rfl
     rotate_left
     ·simp only [Act.put, sA, sB, sC, i64_w, i32_w]
      rfl
     refine one_ (i := 5) (N := some 30) (bs 10 63) rfl rfl (one_of HT_.out (by kernel_rfl)) (by decide) (fun K hK => ?_)
     refine goesT_ (t := 27) Try.func64 (by kernel_rfl) rfl #[.pointer (some ⟨E8, 0, none⟩), .pointer (some ⟨E9, 0, none⟩), .pointer (some ⟨G0, 0, none⟩), .pointer (some ⟨G1, 0, none⟩)] #[.int .i64 x22_2, .int .i64 x18_1, .pointer (some ⟨E8, 0, none⟩), .pointer (some ⟨E9, 0, none⟩), .pointer (some ⟨G0, 0, none⟩), .pointer (some ⟨G1, 0, none⟩)] (by rfl) rfl rfl (by first | rfl | (go_simp; done) | (go_simp; rfl)) (by (try simp only [List.map_toArray, List.map_cons, List.map_nil]); first | done | rfl | (go_simp; done) | (go_simp; rfl)) ?_
     with_reducible refine (raster_Put_1.calls x22_2 x18_1 E8 a2_0 E9 a2_1 G0 a2_2 a2_3 A2_4 c2_4 l2_4 G1 a2_5 a2_6 A2_7 c2_7 l2_7 t895 t896 t897 t898 _ ?side1 ?side2 ?side3 ?side4 ?side5 ?side6 ?side7 ?side8 A20.out).mono ?_
     (case side1 => exact zk0 E1)
     (case side2 => exact zk0 E2)
     (case side3 => exact zk0 E3)
     (case side4 => repeat (first | exact (Kd.C_below Z9.out HB.out) | (with_reducible refine Kd.C_alloc ?_ _) | (with_reducible refine Kd.C_drewN ?_ _) | (with_reducible refine Kd.C_drew ?_)))
     (case side5 => exact J0.out)
     (case side6 => exact zk0 E4)
     (case side7 => repeat (first | exact (Kd.C_below J1.out HB.out) | (with_reducible refine Kd.C_alloc ?_ _) | (with_reducible refine Kd.C_drewN ?_ _) | (with_reducible refine Kd.C_drew ?_)))
     (case side8 => exact J2.out)
     rintro e w23 ⟨rfl, hb⟩
     refine ⟨_, rfl, ?_⟩
     replace E6 := zr E6 hb
     replace E1 := zk E1 hb
     replace E2 := zk E2 hb
     replace E3 := zk E3 hb
     replace E4 := zk E4 hb
     replace E5 := zk E5 hb
     replace E0 := zk E0 hb
     replace HB := zb HB hb
     (try clear hb)
     (try clear hb2)
     (try clear hk)
     (try clear hi)
     refine hK.out _ _ ⟨(blk_cell E0.out 0).trans rfl, (blk_cell E0.out 1).trans rfl, (blk_cell E0.out 2).trans rfl⟩ (fun hHeld => ?_)
     clear hK K
     refine norm_ (a' := ?_) ?_ ?_
     rotate_left
     ·show Act.put _ (some 30) _ = _
      simp only [Act.put, sA, sB, sC, i64_w, i32_w]
      rfl
     refine one_ (i := 6) (N := some 31) (bs 10 127) rfl rfl (one_of HT_.out (by kernel_rfl)) (by decide) (fun K hK => ?_)
     refine value_ (w1 := ?_) (v := ?_) (by rfl) rfl ?_ ?_
     rotate_left 2
     ·go_simp
      constructor
      ·rfl
      ·rfl
     refine hK.out _ _ ⟨(blk_cell (blk_alloc E0.out _) 0).trans rfl, (blk_cell (blk_alloc E0.out _) 1).trans rfl, (blk_cell (blk_alloc E0.out _) 2).trans rfl⟩ (fun hHeld => ?_)
     clear hK K
     refine norm_ (a' := ?_) ?_ ?_
     rotate_left
     ·show Act.put _ (some 31) _ = _
      simp only [Act.put, sA, sB, sC, i64_w, i32_w]
      rfl
     refine one_ (i := 7) (N := some 32) (bs 10 255) rfl rfl (one_of HT_.out (by kernel_rfl)) (by decide) (fun K hK => ?_)
     refine Kd.R_append_step k48 (w0 := w) w.heap.size (by rfl) (.tmp 26) (.tmp 31) 38 48 (.agg #[(.int .i64 0), (.int .i64 0), (.int .i64 0), (.int .i64 0)]) 32 rfl Try.underlying38 info48 rfl (by decide) (by omega) u895002 x895002_2 (⟨t895, t896, t897, t898⟩ : S48) [.int .i64 t895, .int .i64 t896, .int .i64 t897, .int .i64 t898] (fun _ => True) (fun _ => False) rfl rfl ?aP (fun _ hk => hk.elim) ?aF ?aO ?aB ?aS ?aL ?_
     (case aP => exact k48_mkM _ _ _ (⟨t895, t896, t897, t898⟩ : S48))
     (case aB => exact (by exact zb0 HB))
     (case aF => exact (fun _ _ => trivial))
     (case aO => exact (by exact zr0 E6))
     (case aS => exact (below_size (by exact zb0 HB)))
     (case aL => have := LMc21.out; omega)
     intro v900 w24 ho hb hg hat
     rw [← Ny899.out] at ho
     have n0_ := Aside0.mk (blk_grown (zk0 E1) hg (fun e_ => Nat.not_le.2 GL886.out (Kd.R_base E6.out _ e_.symm)))
     have n1_ := Aside0.mk (blk_grown (zk0 E2) hg (fun e_ => Nat.not_le.2 GL887.out (Kd.R_base E6.out _ e_.symm)))
     have n2_ := Aside0.mk (blk_grown (zk0 E3) hg (fun e_ => Nat.not_le.2 GL888.out (Kd.R_base E6.out _ e_.symm)))
     have n3_ := Aside0.mk (blk_grown (zk0 E4) hg (fun e_ => Nat.not_le.2 GL889.out (Kd.R_base E6.out _ e_.symm)))
     have n4_ := Aside0.mk (blk_grown (zk0 E5) hg (Kd.R_ne E6.out E5.out (by decide)))
     have n5_ := Aside0.mk (blk_grown (zk0 E0) hg (Kd.R_ne E6.out E0.out (by decide)))
     have n6_ := Aside0.mk (hb)
     have n7_ := Aside0.mk (ho)
     clear E1
     clear E2
     clear E3
     clear E4
     clear E5
     clear E0
     clear HB
     clear E6
     have E1 := n0_
     have E2 := n1_
     have E3 := n2_
     have E4 := n3_
     have E5 := n4_
     have E0 := n5_
     have HB := n6_
     have HO901 := n7_
     clear n0_ n1_ n2_ n3_ n4_ n5_ n6_ n7_
     clear ho hb hg hat
     obtain ⟨Ao25, co25, eo25⟩ := Kd.R_slice HO901.out
     (first | subst eo25 | (injection eo25 with f1_ f2_ f3_; have f4_ := f1_.symm; have f5_ := f3_.symm; clear f1_ f2_ f3_; subst f4_; subst f5_))
     refine hK.out _ _ ⟨(blk_cell E0.out 0).trans rfl, (blk_cell E0.out 1).trans rfl, (blk_cell E0.out 2).trans rfl⟩ (fun hHeld => ?_)
     clear hK K
     refine norm_ (a' := ?_) ?_ ?_
     rotate_left
     ·show Act.put _ (some 32) _ = _
      simp only [Act.put, sA, sB, sC, i64_w, i32_w]
      rfl
     refine pure_ (i := 8) (N := some 33) (v := ?_) (a' := ?_) (bs 10 511) rfl rfl (any_of HT_.out (by kernel_rfl)) (fun _ _ _ h => h) (Or.inl ⟨by rfl, ?_⟩) ?_ ?_
     rotate_left
     ·intro w'
      go_simp
      with_reducible rfl
     rotate_left
     ·simp only [Act.put, sA, sB, sC, i64_w, i32_w]
      rfl
     refine last_ (i := 9) (N := none) (bs 10 1023) rfl rfl (one_of HT_.out (by kernel_rfl)) (by decide) (fun K hK => ?_)
     have hs26 : w24.cell? ⟨G4, 2, none⟩ = some (u895002) := (blk_cell E0.out 2).trans rfl
     have hfs26 := blk_frozen E0.out 2
     have E0A := G5.out
     have E0B := G6.out
     have E0C := G7.out
     have E0D := G8.out
     have E0E := G9.out
     have E0F := Y3.out
     have E0G := Y4.out
     have E0H := Y5.out
     have E0I := Y6.out
     have E0J := Y7.out
     refine skip_ (w1 := ?_) (by rfl) rfl ?_ ?_
     rotate_left
     ·go_simp
      rfl
     refine hK.out _ _ ?_
     clear hK K
     refine done_ (done_of HT_.out (by kernel_rfl)) ?_
     try go_wp2
     first | go_roundg k2 | ((try subst G3); go_roundg k2)
     case measure => have := HK1.out; have := HK2.out; omega
     case rel => first | (exact ⟨(wrap64 (x22_2 + 1)), (y899), (.slice Ao25 y899.length co25), (by first | rfl | (simp; done) | (simp [*]; done)), H', ⟨by have := HK1.out; have := HK2.out; omega⟩, ⟨by exact zro HO901 E0 (by decide)⟩, ⟨by exact zf E1 G5⟩, ⟨by exact zf E2 G6⟩, ⟨by exact zf E3 G7⟩, ⟨by exact zf E4 G8⟩, ⟨by exact zf E5 G9⟩, ⟨by exact zp E0 rfl⟩, ⟨by exact zbo HB Y2⟩⟩) | (exact ⟨(wrap64 (x22_2 + 1)), (y899), (.slice Ao25 y899.length co25), (by first | rfl | (simp; done) | (simp [*]; done)), H', ⟨by have := HK1.out; have := HK2.out; omega⟩, ⟨by exact zro HO901 E0 (by decide)⟩, ⟨by exact zf E1 G5⟩, ⟨by exact zf E2 G6⟩, ⟨by exact zf E3 G7⟩, ⟨by exact zf E4 G8⟩, ⟨by exact zf E5 G9⟩, ⟨by exact zp E0 rfl⟩, ⟨by exact zbo HB Y2⟩⟩)
/-! ### raster_Put: function 27 -/
def raster_Put.f (k : Nat) (a0_0 : Int) (a0_1 : Int) (l0_2 : List (S48)) (a1_0 : Int) (a1_1 : Int) (l1_2 : List (S48)) (a2_0 : Int) (a2_1 : Int) : Option (Int × Int × (List (S48)) × Int) := (raster_Check.f k a0_0 a0_1 l0_2).bind fun t906 => (if t906 = 0 then ((raster_Check.f k a1_0 a1_1 l1_2).bind fun t907 => (if t907 = 0 then ((raster_fill__raster_Put_1.f k a0_0 a0_1 (mn (mx a2_0 (-1048576)) 1048576) (mn (mx a2_1 (-1048576)) 1048576) a1_0 a1_1 l1_2 a0_0 a0_1 l0_2).bind fun E4 => (some (E4.1, E4.2.1, E4.2.2, 0))) else (some (0, 0, ([] : List (S48)), t907)))) else (some (0, 0, ([] : List (S48)), t906)))
theorem raster_Put.mono : ∀ a0 a1 a2 a3 a4 a5 a6 a7 k, LeO (raster_Put.f k a0 a1 a2 a3 a4 a5 a6 a7) (raster_Put.f (k + 1) a0 a1 a2 a3 a4 a5 a6 a7) := by
 intro a0 a1 a2 a3 a4 a5 a6 a7 k
 unfold raster_Put.f
 repeat' first
   | (with_reducible exact raster_Check.mono _ _ _ _)
   | (with_reducible exact raster_fill__raster_Put_1.mono _ _ _ _ _ _ _ _ _ _ _)
   | (with_reducible exact LeO.refl _)
   | (with_reducible exact LeO.none _)
   | (with_reducible refine LeO.ite ?_ ?_)
   | (with_reducible refine LeO.bind ?_ (fun _ => ?_))
   | exact raster_Check.mono _ _ _ _
   | exact raster_fill__raster_Put_1.mono _ _ _ _ _ _ _ _ _ _ _
   | exact LeO.none _
   | refine LeO.ite ?_ ?_
   | refine LeO.bind ?_ (fun _ => ?_)
set_option maxHeartbeats 8000000 in
set_option maxRecDepth 100000 in
theorem raster_Put.calls (k : Nat) (a0_0 : Int) (a0_1 : Int) (A0_2 : Option Addr) (c0_2 : Nat) (l0_2 : List (S48)) (a1_0 : Int) (a1_1 : Int) (A1_2 : Option Addr) (c1_2 : Nat) (l1_2 : List (S48)) (a2_0 : Int) (a2_1 : Int) (r1 : Int) (r2 : Int) (r3 : List (S48)) (r4 : Int) (w : World) (hr0_2 : Kd.C k48 w A0_2 l0_2.length l0_2) (hc0_2 : l0_2.length ≤ c0_2) (hr1_2 : Kd.C k48 w A1_2 l1_2.length l1_2) (hc1_2 : l1_2.length ≤ c1_2) (h : raster_Put.f k a0_0 a0_1 l0_2 a1_0 a1_1 l1_2 a2_0 a2_1 = some (r1, r2, r3, r4)) :
  Calls Try.prog 27 #[.agg #[.int .i64 a0_0, .int .i64 a0_1, .slice A0_2 l0_2.length c0_2], .agg #[.int .i64 a1_0, .int .i64 a1_1, .slice A1_2 l1_2.length c1_2], .agg #[.int .i64 a2_0, .int .i64 a2_1]] w fun e w' => ∃ v2_ : Value, e = .returned (.tuple #[.agg #[.int .i64 r1, .int .i64 r2, v2_], .int .i64 r4]) ∧ Kd.R k48 48 w' w.heap.size (fun _ => True) v2_ r3 ∧ Below w.heap.size w w' := by
 have hu40 := Try.underlying40
 have hu28 := Try.underlying28
 have Y0 := Aside0.mk hr0_2
 have Y1 := Aside0.mk hc0_2
 clear hr0_2 hc0_2
 have Z1 := Aside0.mk hr1_2
 have Z2 := Aside0.mk hc1_2
 clear hr1_2 hc1_2
 have HB := Aside0.mk (Below.refl w.heap.size w)
 have H : ((raster_Check.f k a0_0 a0_1 l0_2).bind fun t906 => (if t906 = 0 then ((raster_Check.f k a1_0 a1_1 l1_2).bind fun t907 => (if t907 = 0 then ((raster_fill__raster_Put_1.f k a0_0 a0_1 (mn (mx a2_0 (-1048576)) 1048576) (mn (mx a2_1 (-1048576)) 1048576) a1_0 a1_1 l1_2 a0_0 a0_1 l0_2).bind fun E4 => (some (E4.1, E4.2.1, E4.2.2, 0))) else (some (0, 0, ([] : List (S48)), t907)))) else (some (0, 0, ([] : List (S48)), t906)))) = some (r1, r2, r3, r4) := h
 clear h
 replace H := Option.bind_eq_some_iff.mp H
 obtain ⟨t906, A40, H⟩ := H
 try dsimp only at H
 have A4 := Aside0.mk A40
 clear A40
 by_cases c5 : t906 = 0
 rotate_left
 ·rw [if_neg c5] at H
  have J6 : (t906 == 0) = false := beq_eq_false_iff_ne.mpr c5
  have J7 : (t906 != 0) = true := bne_iff_ne.mpr c5
  simp only [Option.some.injEq, Prod.mk.injEq] at H
  obtain ⟨rfl, rfl, rfl, rfl⟩ := H
  go_enter Try.func27, Try.ntmps27
  go_wp2_with (first | ((with_reducible refine gate_dst (N := 3) rfl ?_); refine box_event ?hg (N := 3) ?hd (cs := #[.int .i64 a0_0, .int .i64 a0_1, .slice A0_2 l0_2.length c0_2]) (t := 40) ?hr ?_; (case hd => rfl); (case hg => rfl); (case hr => first | (go_simp; done) | (go_simp; rfl)); intro G0 hg w61 hbox hb; have Z7 := zg HB hg; have Z8 := zg HB hg; have n0_ := Aside0.mk (hbox); replace HB := zb HB hb; have E0 := n0_; clear n0_; clear hb hbox hg) | ((with_reducible refine gate_dst (N := 4) rfl ?_); refine box_event ?hg (N := 4) ?hd (cs := #[.int .i64 a1_0, .int .i64 a1_1, .slice A1_2 l1_2.length c1_2]) (t := 40) ?hr ?_; (case hd => rfl); (case hg => rfl); (case hr => first | (go_simp; done) | (go_simp; rfl)); intro G1 hg w62 hbox hb; have Z9 := zg HB hg; have J0 := zg HB hg; have G6 := zn E0 hg; have G7 := zn' E0 hg; have n0_ := Aside0.mk (hbox); replace E0 := zk E0 hb; replace HB := zb HB hb; have E1 := n0_; clear n0_; clear hb hbox hg) | ((with_reducible refine gate_dst (N := 5) rfl ?_); refine box_event ?hg (N := 5) ?hd (cs := #[.int .i64 a2_0, .int .i64 a2_1]) (t := 28) ?hr ?_; (case hd => rfl); (case hg => rfl); (case hr => first | (go_simp; done) | (go_simp; rfl)); intro Y2 hg w63 hbox hb; have J1 := zg HB hg; have J2 := zg HB hg; have G8 := zn E0 hg; have G9 := zn' E0 hg; have Y3 := zn E1 hg; have Y4 := zn' E1 hg; have n0_ := Aside0.mk (hbox); replace E0 := zk E0 hb; replace E1 := zk E1 hb; replace HB := zb HB hb; have E2 := n0_; clear n0_; clear hb hbox hg) | ((with_reducible refine gate_dst (N := 6) rfl ?_); refine box_event ?hg (N := 6) ?hd (cs := #[.int .i64 0, .int .i64 0, .slice none 0 0]) (t := 40) ?hr ?_; (case hd => rfl); (case hg => rfl); (case hr => first | (go_simp; done) | (go_simp; rfl)); intro E8 hg w64 hbox hb; have J3 := zg HB hg; have V0 := zg HB hg; have V1 := zn E0 hg; have V2 := zn' E0 hg; have V3 := zn E1 hg; have V4 := zn' E1 hg; have V5 := zn E2 hg; have V6 := zn' E2 hg; have n0_ := Aside0.mk (hbox); replace E0 := zk E0 hb; replace E1 := zk E1 hb; replace E2 := zk E2 hb; replace HB := zb HB hb; have E3 := n0_; clear n0_; clear hb hbox hg; have L9 := G6.out; have Q0 := G7.out; have Q1 := G8.out; have Q2 := G9.out; have Q3 := V1.out; have Q4 := V2.out; obtain ⟨Q5, Q6, Q7, Q8, Q9, E0a⟩ := zq3 E0) | ((with_reducible refine gate_callee (f := 22) rfl ?_); refine goesL_ (some 13) rfl rfl Try.func22 (by kernel_rfl) rfl #[.agg #[.int .i64 a0_0, .int .i64 a0_1, .slice A0_2 l0_2.length c0_2]] rfl (by (try simp only [List.map_toArray, List.map_cons, List.map_nil]); first | done | rfl | (simp only [List.length_drop, List.length_take]; rfl)) ?_; (with_reducible refine (raster_Check.calls k a0_0 a0_1 _ _ l0_2 t906 _ ?side1 ?side2 A4.out).mono ?_); (case side1 => repeat (first | exact (Kd.C_below Y0.out HB.out) | (with_reducible refine Kd.C_alloc ?_ _) | (with_reducible refine Kd.C_drewN ?_ _) | (with_reducible refine Kd.C_drew ?_))); (case side2 => exact Y1.out); rintro e w69 ⟨rfl, hb⟩; refine ⟨_, rfl, ?_⟩; replace E0 := zk E0 hb; replace E1 := zk E1 hb; replace E2 := zk E2 hb; replace E3 := zk E3 hb; replace HB := zb HB hb; (try clear hb); have E0b := V4.out; have E0c := V3.out; have E0d := V6.out; have E0e := V5.out; obtain ⟨E0f, E0g, E0h, E0i, E0j, E0k⟩ := zq3 E3))
  refine bodyPost_ret (results_ct rfl _ _ E8 40 #[.int .i64 0, .int .i64 0, .slice none 0 0] (0, 0) _ rfl (by exact zp E3 rfl) Try.underlying40 rfl (by kernel_rfl)) rfl ?_
  exact ⟨_, by first | rfl | (simp [errW_none, errW_some] <;> rfl) | (simp [*, errW_none, errW_some] <;> rfl), by first | exact Kd.R_nil _ _ _ _ _ | exact Kd.N_nil _ _ _ _ _ | exact Kd.V_nil _ _ _ _ _ | exact Kd.Q_nil _ _ _ _ _ | exact Kd.S_nil _ _ _ _ _, by exact zbo HB V0⟩

 rw [if_pos c5] at H
 have J6 : (t906 == 0) = true := beq_iff_eq.mpr c5
 have J7 : (t906 != 0) = false := bne_eq_false_iff_eq.mpr c5
 clear c5
 replace H := Option.bind_eq_some_iff.mp H
 obtain ⟨t907, A60, H⟩ := H
 try dsimp only at H
 have A6 := Aside0.mk A60
 clear A60
 by_cases c7 : t907 = 0
 rotate_left
 ·rw [if_neg c7] at H
  have J8 : (t907 == 0) = false := beq_eq_false_iff_ne.mpr c7
  have J9 : (t907 != 0) = true := bne_iff_ne.mpr c7
  simp only [Option.some.injEq, Prod.mk.injEq] at H
  obtain ⟨rfl, rfl, rfl, rfl⟩ := H
  go_enter Try.func27, Try.ntmps27
  go_wp2_with (first | ((with_reducible refine gate_dst (N := 3) rfl ?_); refine box_event ?hg (N := 3) ?hd (cs := #[.int .i64 a0_0, .int .i64 a0_1, .slice A0_2 l0_2.length c0_2]) (t := 40) ?hr ?_; (case hd => rfl); (case hg => rfl); (case hr => first | (go_simp; done) | (go_simp; rfl)); intro G0 hg w46 hbox hb; have Z7 := zg HB hg; have Z8 := zg HB hg; have n0_ := Aside0.mk (hbox); replace HB := zb HB hb; have E0 := n0_; clear n0_; clear hb hbox hg) | ((with_reducible refine gate_dst (N := 4) rfl ?_); refine box_event ?hg (N := 4) ?hd (cs := #[.int .i64 a1_0, .int .i64 a1_1, .slice A1_2 l1_2.length c1_2]) (t := 40) ?hr ?_; (case hd => rfl); (case hg => rfl); (case hr => first | (go_simp; done) | (go_simp; rfl)); intro G1 hg w47 hbox hb; have Z9 := zg HB hg; have J0 := zg HB hg; have G6 := zn E0 hg; have G7 := zn' E0 hg; have n0_ := Aside0.mk (hbox); replace E0 := zk E0 hb; replace HB := zb HB hb; have E1 := n0_; clear n0_; clear hb hbox hg) | ((with_reducible refine gate_dst (N := 5) rfl ?_); refine box_event ?hg (N := 5) ?hd (cs := #[.int .i64 a2_0, .int .i64 a2_1]) (t := 28) ?hr ?_; (case hd => rfl); (case hg => rfl); (case hr => first | (go_simp; done) | (go_simp; rfl)); intro Y2 hg w48 hbox hb; have J1 := zg HB hg; have J2 := zg HB hg; have G8 := zn E0 hg; have G9 := zn' E0 hg; have Y3 := zn E1 hg; have Y4 := zn' E1 hg; have n0_ := Aside0.mk (hbox); replace E0 := zk E0 hb; replace E1 := zk E1 hb; replace HB := zb HB hb; have E2 := n0_; clear n0_; clear hb hbox hg) | ((with_reducible refine gate_dst (N := 6) rfl ?_); refine box_event ?hg (N := 6) ?hd (cs := #[.int .i64 0, .int .i64 0, .slice none 0 0]) (t := 40) ?hr ?_; (case hd => rfl); (case hg => rfl); (case hr => first | (go_simp; done) | (go_simp; rfl)); intro E8 hg w49 hbox hb; have J3 := zg HB hg; have V0 := zg HB hg; have V1 := zn E0 hg; have V2 := zn' E0 hg; have V3 := zn E1 hg; have V4 := zn' E1 hg; have V5 := zn E2 hg; have V6 := zn' E2 hg; have n0_ := Aside0.mk (hbox); replace E0 := zk E0 hb; replace E1 := zk E1 hb; replace E2 := zk E2 hb; replace HB := zb HB hb; have E3 := n0_; clear n0_; clear hb hbox hg; have E0l := G6.out; have E0m := G7.out; have E0n := G8.out; have E0o := G9.out; have E0p := V1.out; have E0q := V2.out; obtain ⟨E0r, E0s, E0t, E0u, E0v, E0w⟩ := zq3 E0) | ((with_reducible refine gate_callee (f := 22) rfl ?_); refine goesL_ (some 13) rfl rfl Try.func22 (by kernel_rfl) rfl #[.agg #[.int .i64 a0_0, .int .i64 a0_1, .slice A0_2 l0_2.length c0_2]] rfl (by (try simp only [List.map_toArray, List.map_cons, List.map_nil]); first | done | rfl | (simp only [List.length_drop, List.length_take]; rfl)) ?_; (with_reducible refine (raster_Check.calls k a0_0 a0_1 _ _ l0_2 t906 _ ?side1 ?side2 A4.out).mono ?_); (case side1 => repeat (first | exact (Kd.C_below Y0.out HB.out) | (with_reducible refine Kd.C_alloc ?_ _) | (with_reducible refine Kd.C_drewN ?_ _) | (with_reducible refine Kd.C_drew ?_))); (case side2 => exact Y1.out); rintro e w54 ⟨rfl, hb⟩; refine ⟨_, rfl, ?_⟩; replace E0 := zk E0 hb; replace E1 := zk E1 hb; replace E2 := zk E2 hb; replace E3 := zk E3 hb; replace HB := zb HB hb; (try clear hb); have E0x := Y3.out; have E0y := Y4.out; have E0z := V3.out; have E0A := V4.out; obtain ⟨E0B, E0C, E0D, E0E, E0F, E0G⟩ := zq3 E1) | ((with_reducible refine gate_callee (f := 22) rfl ?_); refine goesL_ (some 19) rfl rfl Try.func22 (by kernel_rfl) rfl #[.agg #[.int .i64 a1_0, .int .i64 a1_1, .slice A1_2 l1_2.length c1_2]] rfl (by (try simp only [List.map_toArray, List.map_cons, List.map_nil]); first | done | rfl | (simp only [List.length_drop, List.length_take]; rfl)) ?_; (with_reducible refine (raster_Check.calls k a1_0 a1_1 _ _ l1_2 t907 _ ?side1 ?side2 A6.out).mono ?_); (case side1 => repeat (first | exact (Kd.C_below Z1.out HB.out) | (with_reducible refine Kd.C_alloc ?_ _) | (with_reducible refine Kd.C_drewN ?_ _) | (with_reducible refine Kd.C_drew ?_))); (case side2 => exact Z2.out); rintro e w58 ⟨rfl, hb⟩; refine ⟨_, rfl, ?_⟩; replace E0 := zk E0 hb; replace E1 := zk E1 hb; replace E2 := zk E2 hb; replace E3 := zk E3 hb; replace HB := zb HB hb; (try clear hb); have E0H := V6.out; have E0I := V5.out; obtain ⟨E0J, E0K, E0L, E0M, E0N, E0O⟩ := zq3 E3))
  refine bodyPost_ret (results_ct rfl _ _ E8 40 #[.int .i64 0, .int .i64 0, .slice none 0 0] (0, 0) _ rfl (by exact zp E3 rfl) Try.underlying40 rfl (by kernel_rfl)) rfl ?_
  exact ⟨_, by first | rfl | (simp [errW_none, errW_some] <;> rfl) | (simp [*, errW_none, errW_some] <;> rfl), by first | exact Kd.R_nil _ _ _ _ _ | exact Kd.N_nil _ _ _ _ _ | exact Kd.V_nil _ _ _ _ _ | exact Kd.Q_nil _ _ _ _ _ | exact Kd.S_nil _ _ _ _ _, by exact zbo HB V0⟩
 rw [if_pos c7] at H
 have J8 : (t907 == 0) = true := beq_iff_eq.mpr c7
 have J9 : (t907 != 0) = false := bne_eq_false_iff_eq.mpr c7
 clear c7
 obtain ⟨V7, G2⟩ : ∃ j_ : Int, (mx a2_0 (-1048576)) = j_ := ⟨_, rfl⟩
 replace H : ((raster_fill__raster_Put_1.f k a0_0 a0_1 (mn (V7) 1048576) (mn (mx a2_1 (-1048576)) 1048576) a1_0 a1_1 l1_2 a0_0 a0_1 l0_2).bind fun E4 => (some (E4.1, E4.2.1, E4.2.2, 0))) = some (r1, r2, r3, r4) := by first | (rw [G2] at H; exact H) | (simp only [G2] at H ⊢; exact H)
 (try rw [G2] at A4)
 (try rw [G2] at A6)
 have hji8_ : (if a2_0 < (-1048576) then (-1048576) else a2_0) = V7 := G2
 obtain ⟨E7, G3⟩ : ∃ j_ : Int, (mn (V7) 1048576) = j_ := ⟨_, rfl⟩
 replace H : ((raster_fill__raster_Put_1.f k a0_0 a0_1 (E7) (mn (mx a2_1 (-1048576)) 1048576) a1_0 a1_1 l1_2 a0_0 a0_1 l0_2).bind fun E4 => (some (E4.1, E4.2.1, E4.2.2, 0))) = some (r1, r2, r3, r4) := by first | (rw [G3] at H; exact H) | (simp only [G3] at H ⊢; exact H)
 (try rw [G3] at A4)
 (try rw [G3] at A6)
 have hji9_ : (if 1048576 < (V7) then 1048576 else (V7)) = E7 := G3
 obtain ⟨V8, G4⟩ : ∃ j_ : Int, (mx a2_1 (-1048576)) = j_ := ⟨_, rfl⟩
 replace H : ((raster_fill__raster_Put_1.f k a0_0 a0_1 (E7) (mn (V8) 1048576) a1_0 a1_1 l1_2 a0_0 a0_1 l0_2).bind fun E4 => (some (E4.1, E4.2.1, E4.2.2, 0))) = some (r1, r2, r3, r4) := by first | (rw [G4] at H; exact H) | (simp only [G4] at H ⊢; exact H)
 (try rw [G4] at A4)
 (try rw [G4] at A6)
 have hji10_ : (if a2_1 < (-1048576) then (-1048576) else a2_1) = V8 := G4
 obtain ⟨Y5, G5⟩ : ∃ j_ : Int, (mn (V8) 1048576) = j_ := ⟨_, rfl⟩
 replace H : ((raster_fill__raster_Put_1.f k a0_0 a0_1 (E7) (Y5) a1_0 a1_1 l1_2 a0_0 a0_1 l0_2).bind fun E4 => (some (E4.1, E4.2.1, E4.2.2, 0))) = some (r1, r2, r3, r4) := by first | (rw [G5] at H; exact H) | (simp only [G5] at H ⊢; exact H)
 (try rw [G5] at A4)
 (try rw [G5] at A6)
 have hji11_ : (if 1048576 < (V8) then 1048576 else (V8)) = Y5 := G5
 replace H := Option.bind_eq_some_iff.mp H
 obtain ⟨⟨t910, t911, t912⟩, A120, H⟩ := H
 try dsimp only at H
 have A12 := Aside0.mk A120
 clear A120
 simp only [Option.some.injEq, Prod.mk.injEq] at H
 obtain ⟨rfl, rfl, rfl, rfl⟩ := H
 go_enter Try.func27, Try.ntmps27
 go_wp2_with (first | ((with_reducible refine gate_dst (N := 3) rfl ?_); refine box_event ?hg (N := 3) ?hd (cs := #[.int .i64 a0_0, .int .i64 a0_1, .slice A0_2 l0_2.length c0_2]) (t := 40) ?hr ?_; (case hd => rfl); (case hg => rfl); (case hr => first | (go_simp; done) | (go_simp; rfl)); intro G0 hg w13 hbox hb; have Z7 := zg HB hg; have Z8 := zg HB hg; have n0_ := Aside0.mk (hbox); replace HB := zb HB hb; have E0 := n0_; clear n0_; clear hb hbox hg) | ((with_reducible refine gate_dst (N := 4) rfl ?_); refine box_event ?hg (N := 4) ?hd (cs := #[.int .i64 a1_0, .int .i64 a1_1, .slice A1_2 l1_2.length c1_2]) (t := 40) ?hr ?_; (case hd => rfl); (case hg => rfl); (case hr => first | (go_simp; done) | (go_simp; rfl)); intro G1 hg w14 hbox hb; have Z9 := zg HB hg; have J0 := zg HB hg; have G6 := zn E0 hg; have G7 := zn' E0 hg; have n0_ := Aside0.mk (hbox); replace E0 := zk E0 hb; replace HB := zb HB hb; have E1 := n0_; clear n0_; clear hb hbox hg) | ((with_reducible refine gate_dst (N := 5) rfl ?_); refine box_event ?hg (N := 5) ?hd (cs := #[.int .i64 a2_0, .int .i64 a2_1]) (t := 28) ?hr ?_; (case hd => rfl); (case hg => rfl); (case hr => first | (go_simp; done) | (go_simp; rfl)); intro Y2 hg w15 hbox hb; have J1 := zg HB hg; have J2 := zg HB hg; have G8 := zn E0 hg; have G9 := zn' E0 hg; have Y3 := zn E1 hg; have Y4 := zn' E1 hg; have n0_ := Aside0.mk (hbox); replace E0 := zk E0 hb; replace E1 := zk E1 hb; replace HB := zb HB hb; have E2 := n0_; clear n0_; clear hb hbox hg) | ((with_reducible refine gate_dst (N := 6) rfl ?_); refine box_event ?hg (N := 6) ?hd (cs := #[.int .i64 0, .int .i64 0, .slice none 0 0]) (t := 40) ?hr ?_; (case hd => rfl); (case hg => rfl); (case hr => first | (go_simp; done) | (go_simp; rfl)); intro E8 hg w16 hbox hb; have J3 := zg HB hg; have V0 := zg HB hg; have V1 := zn E0 hg; have V2 := zn' E0 hg; have V3 := zn E1 hg; have V4 := zn' E1 hg; have V5 := zn E2 hg; have V6 := zn' E2 hg; have n0_ := Aside0.mk (hbox); replace E0 := zk E0 hb; replace E1 := zk E1 hb; replace E2 := zk E2 hb; replace HB := zb HB hb; have E3 := n0_; clear n0_; clear hb hbox hg; have E0P := G6.out; have E0Q := G7.out; have E0R := G8.out; have E0S := G9.out; have E0T := V1.out; have E0U := V2.out; obtain ⟨E0V, E0W, E0X, E0Y, E0Z, E1a⟩ := zq3 E0) | ((with_reducible refine gate_callee (f := 22) rfl ?_); refine goesL_ (some 13) rfl rfl Try.func22 (by kernel_rfl) rfl #[.agg #[.int .i64 a0_0, .int .i64 a0_1, .slice A0_2 l0_2.length c0_2]] rfl (by (try simp only [List.map_toArray, List.map_cons, List.map_nil]); first | done | rfl | (simp only [List.length_drop, List.length_take]; rfl)) ?_; (with_reducible refine (raster_Check.calls k a0_0 a0_1 _ _ l0_2 t906 _ ?side1 ?side2 A4.out).mono ?_); (case side1 => repeat (first | exact (Kd.C_below Y0.out HB.out) | (with_reducible refine Kd.C_alloc ?_ _) | (with_reducible refine Kd.C_drewN ?_ _) | (with_reducible refine Kd.C_drew ?_))); (case side2 => exact Y1.out); rintro e w21 ⟨rfl, hb⟩; refine ⟨_, rfl, ?_⟩; replace E0 := zk E0 hb; replace E1 := zk E1 hb; replace E2 := zk E2 hb; replace E3 := zk E3 hb; replace HB := zb HB hb; (try clear hb); have E1b := Y3.out; have E1c := Y4.out; have E1d := V3.out; have E1e := V4.out; obtain ⟨E1f, E1g, E1h, E1i, E1j, E1k⟩ := zq3 E1) | ((with_reducible refine gate_callee (f := 22) rfl ?_); refine goesL_ (some 19) rfl rfl Try.func22 (by kernel_rfl) rfl #[.agg #[.int .i64 a1_0, .int .i64 a1_1, .slice A1_2 l1_2.length c1_2]] rfl (by (try simp only [List.map_toArray, List.map_cons, List.map_nil]); first | done | rfl | (simp only [List.length_drop, List.length_take]; rfl)) ?_; (with_reducible refine (raster_Check.calls k a1_0 a1_1 _ _ l1_2 t907 _ ?side1 ?side2 A6.out).mono ?_); (case side1 => repeat (first | exact (Kd.C_below Z1.out HB.out) | (with_reducible refine Kd.C_alloc ?_ _) | (with_reducible refine Kd.C_drewN ?_ _) | (with_reducible refine Kd.C_drew ?_))); (case side2 => exact Z2.out); rintro e w25 ⟨rfl, hb⟩; refine ⟨_, rfl, ?_⟩; replace E0 := zk E0 hb; replace E1 := zk E1 hb; replace E2 := zk E2 hb; replace E3 := zk E3 hb; replace HB := zb HB hb; (try clear hb); have E1l := V5.out; have E1m := V6.out; obtain ⟨E1n, E1o, E1p, E1q⟩ := zq2 E2) | ((with_reducible refine gate_dst (N := 10) rfl ?_); refine box_event ?hg (N := 10) ?hd (cs := #[.int .i64 0]) (t := 3) ?hr ?_; (case hd => rfl); (case hg => rfl); (case hr => first | (go_simp; done) | (go_simp; rfl)); intro E9 hg w28 hbox hb; have E1r := zg HB hg; have Z3 := zg HB hg; have Y6 := zn E0 hg; have L0 := zn' E0 hg; have Y7 := zn E1 hg; have L1 := zn' E1 hg; have Y8 := zn E2 hg; have L2 := zn' E2 hg; have Y9 := zn E3 hg; have L3 := zn' E3 hg; have n0_ := Aside0.mk (hbox); replace E0 := zk E0 hb; replace E1 := zk E1 hb; replace E2 := zk E2 hb; replace E3 := zk E3 hb; replace HB := zb HB hb; have E6 := n0_; clear n0_; clear hb hbox hg; have E1s := L0.out; have E1t := Y6.out; have E1u := L1.out; have E1v := Y7.out; have E1w := L2.out; have E1x := Y8.out; have E1y := L3.out; have E1z := Y9.out; obtain ⟨E1A, E1B⟩ := zq1 E6; obtain ⟨E1C, E1D, E1E, E1F⟩ := zq2 E2) | ((with_reducible refine gate_dst (N := 11) rfl ?_); refine box_event ?hg (N := 11) ?hd (cs := #[.int .i64 0]) (t := 3) ?hr ?_; (case hd => rfl); (case hg => rfl); (case hr => first | (go_simp; done) | (go_simp; rfl)); intro E5 hg w35 hbox hb; have n0_ := Aside0.mk (blk_below (g := E9) (o := .cells #[.int .i64 E7] 3 (0, 0)) (by exact zp E6 rfl) hb); have n1_ := Aside0.mk (below_step (by exact zbo HB Z3) hb); have n2_ := Aside0.mk (hbox); have n3_ := Aside0.mk ((by rw [hg]; exact (below_size (by exact zbo HB Z3)) : w.heap.size ≤ E5)); have n4_ := Aside0.mk ((by rw [hg]; exact (below_size (by exact zbo HB Z3)) : w.heap.size ≤ E5)); have n5_ := Aside0.mk ((by rw [hg]; exact Nat.ne_of_lt (blk_lt (zf E0 Y6)) : G0 ≠ E5)); have n6_ := Aside0.mk ((by rw [hg]; exact Nat.ne_of_gt (blk_lt (zf E0 Y6)) : E5 ≠ G0)); have n7_ := Aside0.mk ((by rw [hg]; exact Nat.ne_of_lt (blk_lt (zf E1 Y7)) : G1 ≠ E5)); have n8_ := Aside0.mk ((by rw [hg]; exact Nat.ne_of_gt (blk_lt (zf E1 Y7)) : E5 ≠ G1)); have n9_ := Aside0.mk ((by rw [hg]; exact Nat.ne_of_lt (blk_lt (zf E2 Y8)) : Y2 ≠ E5)); have n10_ := Aside0.mk ((by rw [hg]; exact Nat.ne_of_gt (blk_lt (zf E2 Y8)) : E5 ≠ Y2)); have n11_ := Aside0.mk ((by rw [hg]; exact Nat.ne_of_lt (blk_lt (zf E3 Y9)) : E8 ≠ E5)); have n12_ := Aside0.mk ((by rw [hg]; exact Nat.ne_of_gt (blk_lt (zf E3 Y9)) : E5 ≠ E8)); have n13_ := Aside0.mk ((by rw [hg]; exact Nat.ne_of_lt (blk_lt (g := E9) (o := .cells #[.int .i64 E7] 3 (0, 0)) (by exact zp E6 rfl)) : E9 ≠ E5)); have n14_ := Aside0.mk ((by rw [hg]; exact Nat.ne_of_gt (blk_lt (g := E9) (o := .cells #[.int .i64 E7] 3 (0, 0)) (by exact zp E6 rfl)) : E5 ≠ E9)); replace E0 := zfk E0 Y6 hb; replace E1 := zfk E1 Y7 hb; replace E2 := zfk E2 Y8 hb; replace E3 := zfk E3 Y9 hb; clear E6; clear HB; have E6 := n0_; have HB := n1_; have V9 := n2_; have E1G := n3_; have Z0 := n4_; have Z4 := n5_; have L4 := n6_; have Z5 := n7_; have L5 := n8_; have J4 := n9_; have L6 := n10_; have J5 := n11_; have L7 := n12_; have Z6 := n13_; have L8 := n14_; clear n0_ n1_ n2_ n3_ n4_ n5_ n6_ n7_ n8_ n9_ n10_ n11_ n12_ n13_ n14_; clear hb hbox hg; have E1H := L4.out; have E1I := Z4.out; have E1J := L5.out; have E1K := Z5.out; have E1L := L6.out; have E1M := J4.out; have E1N := L7.out; have E1O := J5.out; have E1P := L8.out; have E1Q := Z6.out; obtain ⟨E1R, E1S⟩ := zq1 V9; obtain ⟨E1T, E1U, E1V, E1W, E1X, E1Y⟩ := zq3 E0) | ((with_reducible refine gate_callee (f := 60) rfl ?_); refine goesL_ (some 37) rfl rfl Try.func60 (by kernel_rfl) rfl #[.int .i64 a0_0, .int .i64 a0_1, .func (.func 64) #[] #[.pointer (some ⟨E9, 0, none⟩), .pointer (some ⟨E5, 0, none⟩), .pointer (some ⟨G1, 0, none⟩), .pointer (some ⟨G0, 0, none⟩)]] rfl (by (try simp only [List.map_toArray, List.map_cons, List.map_nil]); first | done | rfl | (simp only [List.length_drop, List.length_take]; rfl)) ?_; (with_reducible refine (raster_fill__raster_Put_1.calls k a0_0 a0_1 E9 E5 G1 G0 E7 Y5 a1_0 a1_1 A1_2 c1_2 l1_2 a0_0 a0_1 A0_2 c0_2 l0_2 t910 t911 t912 _ ?side1 ?side2 ?side3 ?side4 ?side5 ?side6 ?side7 ?side8 A12.out).mono ?_); (case side1 => exact zf E6 Z6); (case side2 => exact zp V9 rfl); (case side3 => exact zf E1 Z5); (case side4 => exact zf E0 Z4); (case side5 => exact Kd.C_below Z1.out (by exact zbo HB Z0)); (case side6 => exact Z2.out); (case side7 => exact Kd.C_below Y0.out (by exact zbo HB Z0)); (case side8 => exact Y1.out); rintro e w43 ⟨v913, rfl, ho0, hb⟩; refine ⟨_, rfl, ?_⟩; have n0_ := Aside0.mk (Kd.R_lower ho0 (below_size (by exact zbo HB Z0))); have n1_ := Aside0.mk (blk_below (g := E5) (o := .cells #[.int .i64 Y5] 3 (0, 0)) (by exact zp V9 rfl) hb); have n2_ := Aside0.mk (below_step (by exact zbo HB Z0) hb); replace E0 := zfk E0 Z4 hb; replace E1 := zfk E1 Z5 hb; replace E2 := zfk E2 J4 hb; replace E3 := zfk E3 J5 hb; replace E6 := zfk E6 Z6 hb; clear V9; clear HB; have HO914 := n0_; have V9 := n1_; have HB := n2_; clear n0_ n1_ n2_; (try clear hb); (try clear ho0); obtain ⟨E1Z, E2a, E2b, E2c, E2d, E2e⟩ := zq3 E3; obtain ⟨Ao45, co45, eo45⟩ := Kd.R_slice HO914.out; subst eo45))
 refine bodyPost_ret (results_ct rfl _ _ E8 40 #[.int .i64 t910, .int .i64 t911, .slice Ao45 t912.length co45] (0, 0) _ rfl (by exact zp E3 rfl) Try.underlying40 rfl (by kernel_rfl)) rfl ?_
 exact ⟨_, by first | rfl | (simp [errW_none, errW_some] <;> rfl) | (simp only [← G2, ← G3, ← G4, ← G5]; first | rfl | (simp [errW_none, errW_some] <;> rfl)) | (simp [*, errW_none, errW_some] <;> rfl), by exact zro HO914 E3 (by decide), by exact zbo HB V0⟩
end Go.Proofs.Ytnfbabmceddciaa.G
