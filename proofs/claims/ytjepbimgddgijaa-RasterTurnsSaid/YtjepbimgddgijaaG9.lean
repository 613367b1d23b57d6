/- Contracts of functions of the program, each as it is called: what it computes (.f), that it computes no less with more rounds (.mono), and that a call returns just that (.calls). No conditions but those that each contract names. Written by a program of this session (wip/gx.py over the kit's print). -/
import Derived.Test.YtjepbimgddgijaaG0
import Derived.Test.YtjepbimgddgijaaG1
import Derived.Test.YtjepbimgddgijaaG8
namespace Go.Proofs.Ytjepbimgddgijaa.G
open Go.RowKit Go.Proofs.YtjepbimgddgijaaW.PrintWords Go.Proofs.YtjepbimgddgijaaW.PrintLast Go.Proofs.YtjepbimgddgijaaW.PrintMore
attribute [local go_sem] max2_int min2_int max_two min_two max_three min_three max_four min_four   -- for this text's walks alone
set_option linter.unusedVariables false
set_option linter.unusedSimpArgs false


/-! ### raster_fill__raster_Join_1: function 40 -/
mutual
def raster_fill__raster_Join_1.l0 : Nat → Int → Int → Int → List (S24) → Int → Int → Int → List (S26) → Option (Int × Int × (List (S26)))
 | 0, _, _, _, _, _, _, _, _ => none
 | k + 1, x0, x17, x18, x394000, x395000, x400000, x400001, x400002 => if x18 < x17 then (raster_fill__raster_Join_1.l1 k x0 x18 x17 x18 x0 0 x394000 x395000 x400000 x400001 x400002) else (some (x400000, x400001, x400002))
def raster_fill__raster_Join_1.l1 : Nat → Int → Int → Int → Int → Int → Int → List (S24) → Int → Int → Int → List (S26) → Option (Int × Int × (List (S26)))
 | 0, _, _, _, _, _, _, _, _, _, _, _ => none
 | k + 1, x0, x8, x17, x18, x21, x22, x394000, x395000, x400000, x400001, x400002 => if x22 < x21 then ((raster_Join_1.f x22 x8 x394000 x395000).bind fun bt400 => (if x400002.length < 4398046511104 then (raster_fill__raster_Join_1.l1 k x0 x8 x17 x18 x21 (wrap64 (x22 + 1)) x394000 x395000 x400000 x400001 (x400002 ++ [(⟨bt400.1, bt400.2.1, bt400.2.2.1, bt400.2.2.2⟩ : S26)])) else (none))) else (raster_fill__raster_Join_1.l0 k x0 x17 (wrap64 (x18 + 1)) x394000 x395000 x400000 x400001 x400002)
end
def raster_fill__raster_Join_1.f (k : Nat) (a0 : Int) (a1 : Int) (l2_0 : List (S24)) (a2_1 : Int) : Option (Int × Int × (List (S26))) := if 0 ≤ (wrap64 (a0 * a1)) then (if (wrap64 (a0 * a1) : Int).toNat ≤ 8796093022208 then (raster_fill__raster_Join_1.l0 k a0 a1 0 l2_0 a2_1 a0 a1 (([] : List (S26)))) else (none)) else (none)
theorem raster_fill__raster_Join_1.mono_l : ∀ k, (∀ y0 y1 y2 y3 y4 y5 y6 y7, LeO (raster_fill__raster_Join_1.l0 k y0 y1 y2 y3 y4 y5 y6 y7) (raster_fill__raster_Join_1.l0 (k + 1) y0 y1 y2 y3 y4 y5 y6 y7)) ∧ (∀ y0 y1 y2 y3 y4 y5 y6 y7 y8 y9 y10, LeO (raster_fill__raster_Join_1.l1 k y0 y1 y2 y3 y4 y5 y6 y7 y8 y9 y10) (raster_fill__raster_Join_1.l1 (k + 1) y0 y1 y2 y3 y4 y5 y6 y7 y8 y9 y10))
 | 0 => ⟨fun _ _ _ _ _ _ _ _ r h => by simp [raster_fill__raster_Join_1.l0] at h, fun _ _ _ _ _ _ _ _ _ _ _ r h => by simp [raster_fill__raster_Join_1.l1] at h⟩
 | k + 1 => by
  obtain ⟨ih0, ih1⟩ := raster_fill__raster_Join_1.mono_l k
  refine ⟨?_, ?_⟩
  ·intro y0 y1 y2 y3 y4 y5 y6 y7
   unfold raster_fill__raster_Join_1.l0
   repeat' first
   | (with_reducible exact ih0 _ _ _ _ _ _ _ _)
   | (with_reducible exact ih1 _ _ _ _ _ _ _ _ _ _ _)
   | (with_reducible exact LeO.refl _)
   | (with_reducible exact LeO.none _)
   | (with_reducible refine LeO.ite ?_ ?_)
   | (with_reducible refine LeO.bind ?_ (fun _ => ?_))
   | exact ih0 _ _ _ _ _ _ _ _
   | exact ih1 _ _ _ _ _ _ _ _ _ _ _
   | exact LeO.none _
   | refine LeO.ite ?_ ?_
   | refine LeO.bind ?_ (fun _ => ?_)
  ·intro y0 y1 y2 y3 y4 y5 y6 y7 y8 y9 y10
   unfold raster_fill__raster_Join_1.l1
   repeat' first
   | (with_reducible exact ih0 _ _ _ _ _ _ _ _)
   | (with_reducible exact ih1 _ _ _ _ _ _ _ _ _ _ _)
   | (with_reducible exact LeO.refl _)
   | (with_reducible exact LeO.none _)
   | (with_reducible refine LeO.ite ?_ ?_)
   | (with_reducible refine LeO.bind ?_ (fun _ => ?_))
   | exact ih0 _ _ _ _ _ _ _ _
   | exact ih1 _ _ _ _ _ _ _ _ _ _ _
   | exact LeO.none _
   | refine LeO.ite ?_ ?_
   | refine LeO.bind ?_ (fun _ => ?_)
theorem raster_fill__raster_Join_1.mono : ∀ a0 a1 a2 a3 k, LeO (raster_fill__raster_Join_1.f k a0 a1 a2 a3) (raster_fill__raster_Join_1.f (k + 1) a0 a1 a2 a3) := by
 intro a0 a1 a2 a3 k
 obtain ⟨ih0, ih1⟩ := raster_fill__raster_Join_1.mono_l k
 unfold raster_fill__raster_Join_1.f
 repeat' first
   | (with_reducible exact ih0 _ _ _ _ _ _ _ _)
   | (with_reducible exact ih1 _ _ _ _ _ _ _ _ _ _ _)
   | (with_reducible exact LeO.refl _)
   | (with_reducible exact LeO.none _)
   | (with_reducible refine LeO.ite ?_ ?_)
   | (with_reducible refine LeO.bind ?_ (fun _ => ?_))
   | exact ih0 _ _ _ _ _ _ _ _
   | exact ih1 _ _ _ _ _ _ _ _ _ _ _
   | exact LeO.none _
   | refine LeO.ite ?_ ?_
   | refine LeO.bind ?_ (fun _ => ?_)
def raster_fill__raster_Join_1.T8 : Bool × List (List Nat × List Nat) := (true, [([], []), ([0], [0]), ([], []), ([], []), ([], []), ([2, 3, 4], [2, 3, 4]), ([5], [5]), ([1, 6, 5], [1, 6]), ([0, 1, 2, 3, 4, 5, 6, 7], []), ([8, 7, 7, 0, 1, 2, 3, 4, 5, 6, 7], [7, 8])])
def raster_fill__raster_Join_1.B8 : List Nat := [0, 1, 0, 0, 0, 28, 60, 127, 255, 511]
theorem raster_fill__raster_Join_1.tab8 : rtab .any (opsOf Try.f40 8) = raster_fill__raster_Join_1.T8 := by kernel_rfl
theorem raster_fill__raster_Join_1.bits8 : waitsOk raster_fill__raster_Join_1.T8.2 raster_fill__raster_Join_1.B8 = true := by kernel_rfl
set_option maxHeartbeats 8000000 in
set_option maxRecDepth 100000 in
theorem raster_fill__raster_Join_1.calls (k : Nat) (a0 : Int) (a1 : Int) (gc2_0 : Nat) (gc2_1 : Nat) (A2_0 : Option Addr) (c2_0 : Nat) (l2_0 : List (S24)) (a2_1 : Int) (r1 : Int) (r2 : Int) (r3 : List (S26)) (w : World) (hp2_0 : w.heap[gc2_0]? = some (.cells #[.slice A2_0 l2_0.length c2_0] 47 (0, 0))) (hp2_1 : w.heap[gc2_1]? = some (.cells #[.int .i64 a2_1] 3 (0, 0))) (hr2_0 : Kd.C k24 w A2_0 l2_0.length l2_0) (hc2_0 : l2_0.length ≤ c2_0) (h : raster_fill__raster_Join_1.f k a0 a1 l2_0 a2_1 = some (r1, r2, r3)) :
  Calls Try.prog 40 #[.int .i64 a0, .int .i64 a1, .func (.func 56) #[] #[.pointer (some ⟨gc2_0, 0, none⟩), .pointer (some ⟨gc2_1, 0, none⟩)]] w fun e w' => ∃ v2_ : Value, e = .returned (.agg #[.int .i64 r1, .int .i64 r2, v2_]) ∧ Kd.R k26 26 w' w.heap.size (fun _ => True) v2_ r3 ∧ Below w.heap.size w w' := by
 have hu24 := Try.underlying24
 have HR2_0 := Aside0.mk hr2_0
 have HC2_0 := Aside0.mk hc2_0
 clear hr2_0 hc2_0
 have BK393 := Aside0.mk hp2_0
 have GL393 := Aside0.mk (show gc2_0 < w.heap.size from blk_lt hp2_0)
 clear hp2_0
 have BK394 := Aside0.mk hp2_1
 have GL394 := Aside0.mk (show gc2_1 < w.heap.size from blk_lt hp2_1)
 clear hp2_1
 have HB := Aside0.mk (Below.refl w.heap.size w)
 have H : (if 0 ≤ (wrap64 (a0 * a1)) then (if (wrap64 (a0 * a1) : Int).toNat ≤ 8796093022208 then (raster_fill__raster_Join_1.l0 k a0 a1 0 l2_0 a2_1 a0 a1 (([] : List (S26)))) else (none)) else (none)) = some (r1, r2, r3) := h
 clear h
 obtain ⟨ji4, hji4⟩ : ∃ j_ : Int, (wrap64 (a0 * a1)) = j_ := ⟨_, rfl⟩
 replace H : (if 0 ≤ (ji4) then (if (ji4 : Int).toNat ≤ 8796093022208 then (raster_fill__raster_Join_1.l0 k a0 a1 0 l2_0 a2_1 a0 a1 (([] : List (S26)))) else (none)) else (none)) = some (r1, r2, r3) := by first | (rw [hji4] at H; exact H) | (simp only [hji4] at H ⊢; exact H)
 have hji4w : (IntKind.i64.wrap (a0 * a1)) = ji4 := (i64_w _).trans hji4
 by_cases c5 : 0 ≤ (ji4)
 ·rw [if_pos c5] at H
  have c5b0 := eq_true c5
  have c5b1 : decide (0 ≤ (ji4)) = true := decide_eq_true c5
  clear c5
  by_cases c6 : (ji4 : Int).toNat ≤ 8796093022208
  ·rw [if_pos c6] at H
   have c6b0 := eq_true c6
   have c6b1 : decide ((ji4 : Int).toNat ≤ 8796093022208) = true := decide_eq_true c6
   clear c6
   obtain ⟨y396, hy396⟩ : ∃ y_ : List (S26), y_ = (([] : List (S26))) := ⟨_, rfl⟩
   replace H : (raster_fill__raster_Join_1.l0 k a0 a1 0 l2_0 a2_1 a0 a1 y396) = some (r1, r2, r3) := by first | (rw [hy396]; with_reducible exact H) | (have H2_ := (Option.bind_some _ _).symm.trans H; rw [hy396]; with_reducible exact H2_) | (have H2_ := (Option.bind_some _ _).symm.trans H; with_reducible exact H2_) | with_reducible exact H | (rw [hy396]; exact H) | exact H
   have Ny396 := Aside0.mk hy396
   clear hy396
   have H' := Aside0.mk H
   clear H
   go_enter Try.func40, Try.ntmps40
   go_wp2_with (first | ((with_reducible refine gate_dst (N := 6) rfl ?_); refine box_event ?hg (N := 6) ?hd (cs := #[.int .i64 0, .int .i64 0, .slice none 0 0]) (t := 24) ?hr ?_; (case hd => rfl); (case hg => rfl); (case hr => first | (go_simp; done) | (go_simp; rfl)); intro gb395 hg w7 hbox hb; have GW395 := zg HB hg; have GE395 := zg HB hg; have NB393_395 := zn BK393 hg; have NB395_393 := zn' BK393 hg; have NB394_395 := zn BK394 hg; have NB395_394 := zn' BK394 hg; have n0_ := Aside0.mk (hbox); replace BK393 := zk BK393 hb; replace BK394 := zk BK394 hb; replace HB := zb HB hb; have BK395 := n0_; clear n0_; clear hb hbox hg) | ((with_reducible refine gate_dst (N := 15) rfl ?_); refine Kd.R_make0 k26 _ 26 rfl (N := 15) rfl 22 _ _ rfl ji4 rfl rfl Try.underlying22 (.agg #[(.int .i64 0), (.int .i64 0), (.int .i64 0), (.int .i64 0)]) 32 info26 rfl (by decide) (by omega) z26 (ok := fun _ => True) (okp := fun _ => True) (k26_mkM _ _ _ z26 ) (fun _ hk => hk) trivial (of_decide_eq_true (by first | (with_reducible assumption) | assumption)) (Nat.le_trans (Nat.mul_le_mul_right _ (of_decide_eq_true (by first | (with_reducible assumption) | assumption) : ji4.toNat ≤ 8796093022208)) (by omega)) (Below.refl _ _) (Nat.le_refl _) ?_; intro v397 w8 ho9 hb hg_ hnew_; clear hg_ hnew_; (first | rw [← Ny396.out] at ho9 | (simp only [Int.reduceToNat] at ho9; rw [← Ny396.out] at ho9)); have HO398 := zl HB ho9; replace BK393 := zk BK393 hb; replace BK394 := zk BK394 hb; replace BK395 := zk BK395 hb; replace HB := zb HB hb; clear hb ho9; obtain ⟨Ao10, co10, eo10⟩ := Kd.R_slice HO398.out; subst eo10) | ((with_reducible refine gate_dst (N := 7) rfl ?_); refine box_event ?hg (N := 7) ?hd (cs := #[.int .i64 0, .int .i64 0, .slice none 0 0]) (t := 24) ?hr ?_; (case hd => rfl); (case hg => rfl); (case hr => first | (go_simp; done) | (go_simp; rfl)); intro gb399 hg w11 hbox hb; have GW399 := zg HB hg; have GE399 := zg HB hg; have NB393_399 := zn BK393 hg; have NB399_393 := zn' BK393 hg; have NB394_399 := zn BK394 hg; have NB399_394 := zn' BK394 hg; have NB395_399 := zn BK395 hg; have NB399_395 := zn' BK395 hg; have n0_ := Aside0.mk (hbox); replace HO398 := zr HO398 hb; replace BK393 := zk BK393 hb; replace BK394 := zk BK394 hb; replace BK395 := zk BK395 hb; replace HB := zb HB hb; have BK399 := n0_; clear n0_; clear hb hbox hg; have hnb12 := NB399_393.out; have hnc12 := NB393_399.out; have hnb13 := NB399_394.out; have hnc13 := NB394_399.out; have hnb14 := NB399_395.out; have hnc14 := NB395_399.out; obtain ⟨hcz15_0, hcz15_1, hcz15_2, hfz15_0, hfz15_1, hfz15_2⟩ := zq3 BK399))
   (try simp only [Act.put, sA, sB, sC])
   go_loopg [18] k (fun kq v18 w' => ∃ (x18_1 : Int) (x400002_1 : List (S26)) (u400002 : Value), v18 = .int .i64 x18_1 ∧ Aside0 (raster_fill__raster_Join_1.l0 kq a0 a1 x18_1 l2_0 a2_1 a0 a1 x400002_1 = some (r1, r2, r3)) ∧ Aside0 (kq ≤ k) ∧ Aside0 (Kd.R k26 26 w' w.heap.size (fun _ => True) u400002 x400002_1) ∧ Aside0 (w'.heap[gc2_0]? = some (.cells #[(.slice A2_0 l2_0.length c2_0)] 47 (0, 0))) ∧ Aside0 (w'.heap[gc2_1]? = some (.cells #[.int .i64 a2_1] 3 (0, 0))) ∧ Aside0 (w'.heap[gb395]? = some (.cells #[.int .i64 0, .int .i64 0, (.slice none 0 0)] 24 (0, 0))) ∧ Aside0 (w'.heap[gb399]? = some (.cells #[.int .i64 a0, .int .i64 a1, u400002] 24 (0, 0))) ∧ Aside0 (Below w.heap.size w w'))
   case atStart => exact ⟨(0), (y396), (.slice Ao10 y396.length co10), (by first | rfl | (simp; done) | (simp [*]; done)), H', ⟨Nat.le_refl _⟩, ⟨by exact zro HO398 BK399 (by decide)⟩, ⟨by exact zf BK393 NB393_399⟩, ⟨by exact zf BK394 NB394_399⟩, ⟨by exact zf BK395 NB395_399⟩, ⟨by exact zp BK399 rfl⟩, ⟨by exact zbo HB GE399⟩⟩
   case round =>
    clear H'
    try clear c1
    try clear c2
    try clear p2
    try clear q3
    try clear c4
    try clear c5
    try clear c5b0
    try clear c5b1
    try clear c6
    try clear c6b0
    try clear c6b1
    try clear p6
    try clear c12
    try clear c13
    try clear c14
    try clear hcz15_0
    try clear hcz15_1
    try clear hcz15_2
    try clear hfz15_0
    try clear hfz15_1
    try clear hfz15_2
    obtain ⟨x18_1, x400002_1, u400002, rfl, HA, HK1, HO_400002, BK393, BK394, BK395, BK399, HB⟩ := hrel
    cases gk with
    | zero => exact absurd HA.out (by simp [raster_fill__raster_Join_1.l0])
    | succ k1 =>
     have H := HA.out
     clear HA
     simp only [raster_fill__raster_Join_1.l0] at H
     by_cases c16 : x18_1 < a1
     ·rw [if_pos c16] at H
      have c16b0 : decide (x18_1 < a1) = true := decide_eq_true c16
      clear c16
      have H' := Aside0.mk H
      clear H
      go_wp2
      go_loopg [22] k1 (fun kq v22 w' => ∃ (x22_2 : Int) (x400002_2 : List (S26)) (u400002 : Value), v22 = .int .i64 x22_2 ∧ Aside0 (raster_fill__raster_Join_1.l1 kq a0 x18_1 a1 x18_1 a0 x22_2 l2_0 a2_1 a0 a1 x400002_2 = some (r1, r2, r3)) ∧ Aside0 (kq ≤ k1) ∧ Aside0 (Kd.R k26 26 w' w.heap.size (fun _ => True) u400002 x400002_2) ∧ Aside0 (w'.heap[gc2_0]? = some (.cells #[(.slice A2_0 l2_0.length c2_0)] 47 (0, 0))) ∧ Aside0 (w'.heap[gc2_1]? = some (.cells #[.int .i64 a2_1] 3 (0, 0))) ∧ Aside0 (w'.heap[gb395]? = some (.cells #[.int .i64 0, .int .i64 0, (.slice none 0 0)] 24 (0, 0))) ∧ Aside0 (w'.heap[gb399]? = some (.cells #[.int .i64 a0, .int .i64 a1, u400002] 24 (0, 0))) ∧ Aside0 (Below w.heap.size w w'))
      case atStart => exact ⟨(0), (x400002_1), (u400002), (by first | rfl | (simp; done) | (simp [*]; done)), H', ⟨Nat.le_refl _⟩, ⟨by exact zr0 HO_400002⟩, ⟨by exact zk0 BK393⟩, ⟨by exact zk0 BK394⟩, ⟨by exact zk0 BK395⟩, ⟨by exact zk0 BK399⟩, ⟨by exact zb0 HB⟩⟩
      case round =>
       clear H'
       try clear c1
       try clear c2
       try clear p2
       try clear q3
       try clear c4
       try clear c5
       try clear c5b0
       try clear c5b1
       try clear c6
       try clear c6b0
       try clear c6b1
       try clear p6
       try clear c12
       try clear c13
       try clear c14
       try clear c16
       try clear c16b0
       try clear hcz15_0
       try clear hcz15_1
       try clear hcz15_2
       try clear hfz15_0
       try clear hfz15_1
       try clear hfz15_2
       try clear p2
       try clear p6
       try clear q3
       obtain ⟨x22_2, x400002_2, u400002, rfl, HA, HK2, HO_400002, BK393, BK394, BK395, BK399, HB⟩ := hrel
       cases gk with
       | zero => exact absurd HA.out (by simp [raster_fill__raster_Join_1.l1])
       | succ k2 =>
        have H := HA.out
        clear HA
        simp only [raster_fill__raster_Join_1.l1] at H
        by_cases c17 : x22_2 < a0
        ·rw [if_pos c17] at H
         have c17b0 : decide (x22_2 < a0) = true := decide_eq_true c17
         clear c17
         replace H := Option.bind_eq_some_iff.mp H
         obtain ⟨⟨t400, t401, t402, t403⟩, A180, H⟩ := H
         replace H : (if x400002_2.length < 4398046511104 then (raster_fill__raster_Join_1.l1 k2 a0 x18_1 a1 x18_1 a0 (wrap64 (x22_2 + 1)) l2_0 a2_1 a0 a1 (x400002_2 ++ [(⟨t400, t401, t402, t403⟩ : S26)])) else (none)) = some (r1, r2, r3) := H
         have A18 := Aside0.mk A180
         clear A180
         by_cases c19 : x400002_2.length < 4398046511104
         ·rw [if_pos c19] at H
          have LMc19 := Aside0.mk c19
          clear c19
          obtain ⟨y404, hy404⟩ : ∃ y_ : List (S26), y_ = (x400002_2 ++ [(⟨t400, t401, t402, t403⟩ : S26)]) := ⟨_, rfl⟩
          replace H : (raster_fill__raster_Join_1.l1 k2 a0 x18_1 a1 x18_1 a0 (wrap64 (x22_2 + 1)) l2_0 a2_1 a0 a1 y404) = some (r1, r2, r3) := by first | (rw [hy404]; with_reducible exact H) | (have H2_ := (Option.bind_some _ _).symm.trans H; rw [hy404]; with_reducible exact H2_) | (have H2_ := (Option.bind_some _ _).symm.trans H; with_reducible exact H2_) | with_reducible exact H | (rw [hy404]; exact H) | exact H
          have Ny404 := Aside0.mk hy404
          clear hy404
          have H' := Aside0.mk H
          clear H
          try go_wp2
          replace HO_400002 := zrd HO_400002
          replace BK393 := zkd BK393
          replace BK394 := zkd BK394
          replace BK395 := zkd BK395
          replace BK399 := zkd BK399
          replace HB := zbd HB
          refine start_ (n := 10) (S := fun w' => w'.cell? ⟨gb399, 0, none⟩ = some (.int .i64 a0) ∧ w'.cell? ⟨gb399, 1, none⟩ = some (.int .i64 a1) ∧ w'.cell? ⟨gb399, 2, none⟩ = some (u400002)) (ds := [9]) (bs 10 0) (by kernel_rfl) rfl rfl ⟨(blk_cell BK399.out 0).trans rfl, (blk_cell BK399.out 1).trans rfl, (blk_cell BK399.out 2).trans rfl⟩ (fun hHeld => ?_); refine with_tabW raster_fill__raster_Join_1.tab8 raster_fill__raster_Join_1.bits8 (fun HT_ HW_ => ?_)
          generalize wr.drew = w20 at HO_400002 BK393 BK394 BK395 BK399 HB hHeld ⊢
          refine pure_ (i := 0) (N := some 25) (v := ?_) (a' := ?_) (bs 10 1) rfl rfl (any_of HT_.out (by kernel_rfl)) (fun _ _ _ h => h) (Or.inl ⟨by rfl, ?_⟩) ?_ ?_
          rotate_left
          ·intro w'
           go_simp
           with_reducible rfl
          rotate_left
          ·simp only [Act.put, sA, sB, sC, i64_w, i32_w]
           rfl
          refine pure_ (i := 2) (N := some 27) (v := ?_) (a' := ?_) (bs 10 5) rfl rfl (any_of HT_.out (by kernel_rfl)) (fun _ _ _ h => h) (Or.inl ⟨by rfl, ?_⟩) ?_ ?_
          rotate_left
          ·intro w'
           go_simp
           with_reducible rfl
          rotate_left
          ·simp only [Act.put, sA, sB, sC, i64_w, i32_w]
           rfl
          refine pure_ (i := 3) (N := some 28) (v := ?_) (a' := ?_) (bs 10 13) rfl rfl (any_of HT_.out (by kernel_rfl)) (fun _ _ _ h => h) (Or.inl ⟨by rfl, ?_⟩) ?_ ?_
          rotate_left
          ·intro w'
           go_simp
           with_reducible rfl
          rotate_left
          ·simp only [Act.put, sA, sB, sC, i64_w, i32_w]
           rfl
          refine pure_ (i := 4) (N := some 29) (v := ?_) (a' := ?_) (bs 10 29) rfl rfl (any_of HT_.out (by kernel_rfl)) (fun _ _ _ h => h) (Or.inl ⟨by rfl, ?_⟩) ?_ ?_
          rotate_left
          ·intro w'
           go_simp
           with_reducible rfl
          rotate_left
          ·simp only [Act.put, sA, sB, sC, i64_w, i32_w]
           rfl
          refine take_ (i := 1) (N := some 26) (v := ?_) (a' := ?_) (bs 10 31) rfl rfl (take_ofW HT_.out HW_.out (by kernel_rfl)) (fun _ _ _ h => h) (Or.inl ⟨by rfl, ?_⟩) hHeld ?_ ?_
          rotate_left
          ·rintro w' ⟨s0, s1, s2⟩
           go_simp
           with_reducible rfl
          rotate_left
          ·simp only [Act.put, sA, sB, sC, i64_w, i32_w]
           rfl
          refine one_ (i := 5) (N := some 30) (bs 10 63) rfl rfl (one_of HT_.out (by kernel_rfl)) (by decide) (fun K hK => ?_)
          refine goesT_ (t := 27) Try.func56 (by kernel_rfl) rfl #[.pointer (some ⟨gc2_0, 0, none⟩), .pointer (some ⟨gc2_1, 0, none⟩)] #[.int .i64 x22_2, .int .i64 x18_1, .pointer (some ⟨gc2_0, 0, none⟩), .pointer (some ⟨gc2_1, 0, none⟩)] (by rfl) rfl rfl (by first | rfl | (go_simp; done) | (go_simp; rfl)) (by (try simp only [List.map_toArray, List.map_cons, List.map_nil]); first | done | rfl | (go_simp; done) | (go_simp; rfl)) ?_
          with_reducible refine (raster_Join_1.calls x22_2 x18_1 gc2_0 A2_0 c2_0 l2_0 gc2_1 a2_1 t400 t401 t402 t403 _ ?side1 ?side2 ?side3 ?side4 A18.out).mono ?_
          (case side1 => exact zk0 BK393)
          (case side2 => repeat (first | exact (Kd.C_below HR2_0.out HB.out) | (with_reducible refine Kd.C_alloc ?_ _) | (with_reducible refine Kd.C_drewN ?_ _) | (with_reducible refine Kd.C_drew ?_)))
          (case side3 => exact HC2_0.out)
          (case side4 => exact zk0 BK394)
          rintro e w21 ⟨rfl, hb⟩
          refine ⟨_, rfl, ?_⟩
          replace HO_400002 := zr HO_400002 hb
          replace BK393 := zk BK393 hb
          replace BK394 := zk BK394 hb
          replace BK395 := zk BK395 hb
          replace BK399 := zk BK399 hb
          replace HB := zb HB hb
          (try clear hb)
          (try clear hb2)
          (try clear hk)
          (try clear hi)
          refine hK.out _ _ ⟨(blk_cell BK399.out 0).trans rfl, (blk_cell BK399.out 1).trans rfl, (blk_cell BK399.out 2).trans rfl⟩ (fun hHeld => ?_)
          clear hK K
          refine norm_ (a' := ?_) ?_ ?_
          rotate_left
          ·show Act.put _ (some 30) _ = _
           simp only [Act.put, sA, sB, sC, i64_w, i32_w]
           rfl
          refine one_ (i := 6) (N := some 31) (bs 10 127) rfl rfl (one_of HT_.out (by kernel_rfl)) (by decide) (fun K hK => ?_)
          refine value_ (w1 := ?_) (v := ?_) (by rfl) rfl ?_ ?_
          rotate_left 2
          ·go_simp
           constructor
           ·rfl
           ·rfl
          refine hK.out _ _ ⟨(blk_cell (blk_alloc BK399.out _) 0).trans rfl, (blk_cell (blk_alloc BK399.out _) 1).trans rfl, (blk_cell (blk_alloc BK399.out _) 2).trans rfl⟩ (fun hHeld => ?_)
          clear hK K
          refine norm_ (a' := ?_) ?_ ?_
          rotate_left
          ·show Act.put _ (some 31) _ = _
           simp only [Act.put, sA, sB, sC, i64_w, i32_w]
           rfl
          refine one_ (i := 7) (N := some 32) (bs 10 255) rfl rfl (one_of HT_.out (by kernel_rfl)) (by decide) (fun K hK => ?_)
          refine Kd.R_append_step k26 (w0 := w) w.heap.size (by rfl) (.tmp 26) (.tmp 31) 22 26 (.agg #[(.int .i64 0), (.int .i64 0), (.int .i64 0), (.int .i64 0)]) 32 rfl Try.underlying22 info26 rfl (by decide) (by omega) u400002 x400002_2 (⟨t400, t401, t402, t403⟩ : S26) [.int .i64 t400, .int .i64 t401, .int .i64 t402, .int .i64 t403] (fun _ => True) (fun _ => False) rfl rfl ?aP (fun _ hk => hk.elim) ?aF ?aO ?aB ?aS ?aL ?_
          (case aP => exact k26_mkM _ _ _ (⟨t400, t401, t402, t403⟩ : S26))
          (case aB => exact (by exact zb0 HB))
          (case aF => exact (fun _ _ => trivial))
          (case aO => exact (by exact zr0 HO_400002))
          (case aS => exact (below_size (by exact zb0 HB)))
          (case aL => have := LMc19.out; omega)
          intro v405 w22 ho hb hg hat
          rw [← Ny404.out] at ho
          have n0_ := Aside0.mk (blk_grown (zk0 BK393) hg (fun e_ => Nat.not_le.2 GL393.out (Kd.R_base HO_400002.out _ e_.symm)))
          have n1_ := Aside0.mk (blk_grown (zk0 BK394) hg (fun e_ => Nat.not_le.2 GL394.out (Kd.R_base HO_400002.out _ e_.symm)))
          have n2_ := Aside0.mk (blk_grown (zk0 BK395) hg (Kd.R_ne HO_400002.out BK395.out (by decide)))
          have n3_ := Aside0.mk (blk_grown (zk0 BK399) hg (Kd.R_ne HO_400002.out BK399.out (by decide)))
          have n4_ := Aside0.mk (hb)
          have n5_ := Aside0.mk (ho)
          clear BK393
          clear BK394
          clear BK395
          clear BK399
          clear HB
          clear HO_400002
          have BK393 := n0_
          have BK394 := n1_
          have BK395 := n2_
          have BK399 := n3_
          have HB := n4_
          have HO406 := n5_
          clear n0_ n1_ n2_ n3_ n4_ n5_
          clear ho hb hg hat
          obtain ⟨Ao23, co23, eo23⟩ := Kd.R_slice HO406.out
          (first | subst eo23 | (injection eo23 with f1_ f2_ f3_; have f4_ := f1_.symm; have f5_ := f3_.symm; clear f1_ f2_ f3_; subst f4_; subst f5_))
          refine hK.out _ _ ⟨(blk_cell BK399.out 0).trans rfl, (blk_cell BK399.out 1).trans rfl, (blk_cell BK399.out 2).trans rfl⟩ (fun hHeld => ?_)
          clear hK K
          refine norm_ (a' := ?_) ?_ ?_
          rotate_left
          ·show Act.put _ (some 32) _ = _
           simp only [Act.put, sA, sB, sC, i64_w, i32_w]
           rfl
          refine pure_ (i := 8) (N := some 33) (v := ?_) (a' := ?_) (bs 10 511) rfl rfl (any_of HT_.out (by kernel_rfl)) (fun _ _ _ h => h) (Or.inl ⟨by rfl, ?_⟩) ?_ ?_
          rotate_left
          ·intro w'
           go_simp
           with_reducible rfl
          rotate_left
          ·simp only [Act.put, sA, sB, sC, i64_w, i32_w]
           rfl
          refine last_ (i := 9) (N := none) (bs 10 1023) rfl rfl (one_of HT_.out (by kernel_rfl)) (by decide) (fun K hK => ?_)
          have hs24 : w22.cell? ⟨gb399, 2, none⟩ = some (u400002) := (blk_cell BK399.out 2).trans rfl
          have hfs24 := blk_frozen BK399.out 2
          have hns24_0 := NB393_399.out
          have hns24_1 := NB394_399.out
          have hns24_2 := NB395_399.out
          have hms24_0 := NB399_393.out
          have hms24_1 := NB399_394.out
          have hms24_2 := NB399_395.out
          refine skip_ (w1 := ?_) (by rfl) rfl ?_ ?_
          rotate_left
          ·go_simp
           rfl
          refine hK.out _ _ ?_
          clear hK K
          refine done_ (done_of HT_.out (by kernel_rfl)) ?_
          try go_wp2
          first | go_roundg k2 | ((try subst hji4); go_roundg k2)
          case measure => have := HK1.out; have := HK2.out; omega
          case rel => first | (exact ⟨(wrap64 (x22_2 + 1)), (y404), (.slice Ao23 y404.length co23), (by first | rfl | (simp; done) | (simp [*]; done)), H', ⟨by have := HK1.out; have := HK2.out; omega⟩, ⟨by exact zro HO406 BK399 (by decide)⟩, ⟨by exact zf BK393 NB393_399⟩, ⟨by exact zf BK394 NB394_399⟩, ⟨by exact zf BK395 NB395_399⟩, ⟨by exact zp BK399 rfl⟩, ⟨by exact zbo HB GE399⟩⟩) | (exact ⟨(wrap64 (x22_2 + 1)), (y404), (.slice Ao23 y404.length co23), (by first | rfl | (simp; done) | (simp [*]; done)), H', ⟨by have := HK1.out; have := HK2.out; omega⟩, ⟨by exact zro HO406 BK399 (by decide)⟩, ⟨by exact zf BK393 NB393_399⟩, ⟨by exact zf BK394 NB394_399⟩, ⟨by exact zf BK395 NB395_399⟩, ⟨by exact zp BK399 rfl⟩, ⟨by exact zbo HB GE399⟩⟩)
         ·rw [if_neg c19] at H
          exact absurd H (by simp)
        ·rw [if_neg c17] at H
         have c17b0 : decide (x22_2 < a0) = false := decide_eq_false c17
         clear c17
         have H' := Aside0.mk H
         clear H
         go_wp2
         first | go_roundg k2 | ((try subst hji4); go_roundg k2)
         case measure => have := HK1.out; have := HK2.out; omega
         case rel => first | (exact ⟨(wrap64 (x18_1 + 1)), (x400002_2), (u400002), (by first | rfl | (simp; done) | (simp [*]; done)), H', ⟨by have := HK1.out; have := HK2.out; omega⟩, ⟨by exact zr0 HO_400002⟩, ⟨by exact zk0 BK393⟩, ⟨by exact zk0 BK394⟩, ⟨by exact zk0 BK395⟩, ⟨by exact zk0 BK399⟩, ⟨by exact zb0 HB⟩⟩) | (exact ⟨(wrap64 (x18_1 + 1)), (x400002_2), (u400002), (by first | rfl | (simp; done) | (simp [*]; done)), H', ⟨by have := HK1.out; have := HK2.out; omega⟩, ⟨by exact zr0 HO_400002⟩, ⟨by exact zk0 BK393⟩, ⟨by exact zk0 BK394⟩, ⟨by exact zk0 BK395⟩, ⟨by exact zk0 BK399⟩, ⟨by exact zb0 HB⟩⟩)
     ·rw [if_neg c16] at H
      have c16b0 : decide (x18_1 < a1) = false := decide_eq_false c16
      clear c16
      simp only [Option.some.injEq, Prod.mk.injEq] at H
      obtain ⟨rfl, rfl, rfl⟩ := H
      have hnb25 := NB399_393.out
      have hnc25 := NB393_399.out
      have hnb26 := NB399_394.out
      have hnc26 := NB394_399.out
      have hnb27 := NB399_395.out
      have hnc27 := NB395_399.out
      obtain ⟨hcz28_0, hcz28_1, hcz28_2, hfz28_0, hfz28_1, hfz28_2⟩ := zq3 BK399
      have hnb29 := NB395_393.out
      have hnc29 := NB393_395.out
      have hnb30 := NB395_394.out
      have hnc30 := NB394_395.out
      obtain ⟨hcz31_0, hcz31_1, hcz31_2, hfz31_0, hfz31_1, hfz31_2⟩ := zq3 BK395
      obtain ⟨Ao32, co32, eo32⟩ := Kd.R_slice HO_400002.out
      subst eo32
      go_wp2
      refine bodyPost_ret (results_cell_row rfl _ _ gb395 24 #[.int .i64 a0, .int .i64 a1, .slice Ao32 x400002_1.length co32] (0, 0) _ rfl (by exact zp BK395 rfl) Try.underlying24 rfl (by kernel_rfl)) rfl ?_
      exact ⟨_, by first | rfl | (simp [errW_none, errW_some] <;> rfl) | (simp only [← hji4]; first | rfl | (simp [errW_none, errW_some] <;> rfl)) | (simp [*, errW_none, errW_some] <;> rfl), by exact zro HO_400002 BK395 (by decide), by exact zbo HB GE395⟩
  ·rw [if_neg c6] at H
   exact absurd H (by simp)
 ·rw [if_neg c5] at H
  exact absurd H (by simp)

/-! ### raster_Join: function 35 -/
mutual
def raster_Join.j0 : Nat → Int → Int → Bool → List (S24) → Option (Int × Int × (List (S26)) × Int)
 | 0, _, _, _, _ => none
 | k + 1, x0, x1, x26, x408000 => if x26 = true then (some (0, 0, ([] : List (S26)), 15)) else (if (x408000.length : Int) = (wrap64 ((wrap64 (Int.tdiv (wrap64 ((wrap64 (x0 + 16)) - 1)) 16)) * (wrap64 (Int.tdiv (wrap64 ((wrap64 (x1 + 16)) - 1)) 16)))) then (raster_Join.l0 k x0 x1 x408000 (x408000.length : Int) 0 x408000 (wrap64 (Int.tdiv (wrap64 ((wrap64 (x0 + 16)) - 1)) 16))) else (some (0, 0, ([] : List (S26)), 15)))
def raster_Join.l0 : Nat → Int → Int → List (S24) → Int → Int → List (S24) → Int → Option (Int × Int × (List (S26)) × Int)
 | 0, _, _, _, _, _, _, _ => none
 | k + 1, x0, x1, x43, x44, x45, x408000, x410000 => if x45 < x44 then (if 0 ≤ x45 then (if x45 < (x43.length : Int) then (if x410000 = 0 then (none) else (if ((rd_T24 x43 x45).f0) = (mn 16 (wrap64 (x0 - (wrap64 ((Int.tmod x45 x410000) * 16))))) then (raster_Join.j2 k x0 x1 x43 x44 x45 (((rd_T24 x43 x45).f1) != (mn 16 (wrap64 (x1 - (wrap64 ((wrap64 (Int.tdiv x45 x410000)) * 16)))))) x408000 x410000 ((rd_T24 x43 x45).f0) ((rd_T24 x43 x45).f1) ((rd_T24 x43 x45).f2)) else (raster_Join.j2 k x0 x1 x43 x44 x45 true x408000 x410000 ((rd_T24 x43 x45).f0) ((rd_T24 x43 x45).f1) ((rd_T24 x43 x45).f2)))) else (none)) else (none)) else ((raster_fill__raster_Join_1.f k x0 x1 x408000 x410000).bind fun bt410 => (some (bt410.1, bt410.2.1, bt410.2.2, 0)))
def raster_Join.j2 : Nat → Int → Int → List (S24) → Int → Int → Bool → List (S24) → Int → Int → Int → List (S26) → Option (Int × Int × (List (S26)) × Int)
 | 0, _, _, _, _, _, _, _, _, _, _, _ => none
 | k + 1, x0, x1, x43, x44, x45, x71, x408000, x410000, x417000, x417001, x417002 => if x71 = true then (some (0, 0, ([] : List (S26)), 15)) else ((raster_Check.f k x417000 x417001 x417002).bind fun t417 => (if t417 = 0 then (raster_Join.l0 k x0 x1 x43 x44 (wrap64 (x45 + 1)) x408000 x410000) else (some (0, 0, ([] : List (S26)), t417))))
end
def raster_Join.f (k : Nat) (a0 : Int) (a1 : Int) (l2 : List (S24)) : Option (Int × Int × (List (S26)) × Int) := if a0 < 1 then (raster_Join.j0 k a0 a1 true l2) else (if a0 > 256 then (raster_Join.j0 k a0 a1 true l2) else (if a1 < 1 then (raster_Join.j0 k a0 a1 true l2) else (raster_Join.j0 k a0 a1 (decide (a1 > 256)) l2)))
theorem raster_Join.mono_l : ∀ k, (∀ y0 y1 y2 y3, LeO (raster_Join.j0 k y0 y1 y2 y3) (raster_Join.j0 (k + 1) y0 y1 y2 y3)) ∧ (∀ y0 y1 y2 y3 y4 y5 y6, LeO (raster_Join.l0 k y0 y1 y2 y3 y4 y5 y6) (raster_Join.l0 (k + 1) y0 y1 y2 y3 y4 y5 y6)) ∧ (∀ y0 y1 y2 y3 y4 y5 y6 y7 y8 y9 y10, LeO (raster_Join.j2 k y0 y1 y2 y3 y4 y5 y6 y7 y8 y9 y10) (raster_Join.j2 (k + 1) y0 y1 y2 y3 y4 y5 y6 y7 y8 y9 y10))
 | 0 => ⟨fun _ _ _ _ r h => by simp [raster_Join.j0] at h, fun _ _ _ _ _ _ _ r h => by simp [raster_Join.l0] at h, fun _ _ _ _ _ _ _ _ _ _ _ r h => by simp [raster_Join.j2] at h⟩
 | k + 1 => by
  obtain ⟨ih0, ih1, ih2⟩ := raster_Join.mono_l k
  refine ⟨?_, ?_, ?_⟩
  ·intro y0 y1 y2 y3
   unfold raster_Join.j0
   repeat' first
   | (with_reducible exact ih0 _ _ _ _)
   | (with_reducible exact ih1 _ _ _ _ _ _ _)
   | (with_reducible exact ih2 _ _ _ _ _ _ _ _ _ _ _)
   | (with_reducible exact raster_Check.mono _ _ _ _)
   | (with_reducible exact raster_fill__raster_Join_1.mono _ _ _ _ _)
   | (with_reducible exact LeO.refl _)
   | (with_reducible exact LeO.none _)
   | (with_reducible refine LeO.ite ?_ ?_)
   | (with_reducible refine LeO.bind ?_ (fun _ => ?_))
   | exact ih0 _ _ _ _
   | exact ih1 _ _ _ _ _ _ _
   | exact ih2 _ _ _ _ _ _ _ _ _ _ _
   | exact raster_Check.mono _ _ _ _
   | exact raster_fill__raster_Join_1.mono _ _ _ _ _
   | exact LeO.none _
   | refine LeO.ite ?_ ?_
   | refine LeO.bind ?_ (fun _ => ?_)
  ·intro y0 y1 y2 y3 y4 y5 y6
   unfold raster_Join.l0
   repeat' first
   | (with_reducible exact ih0 _ _ _ _)
   | (with_reducible exact ih1 _ _ _ _ _ _ _)
   | (with_reducible exact ih2 _ _ _ _ _ _ _ _ _ _ _)
   | (with_reducible exact raster_Check.mono _ _ _ _)
   | (with_reducible exact raster_fill__raster_Join_1.mono _ _ _ _ _)
   | (with_reducible exact LeO.refl _)
   | (with_reducible exact LeO.none _)
   | (with_reducible refine LeO.ite ?_ ?_)
   | (with_reducible refine LeO.bind ?_ (fun _ => ?_))
   | exact ih0 _ _ _ _
   | exact ih1 _ _ _ _ _ _ _
   | exact ih2 _ _ _ _ _ _ _ _ _ _ _
   | exact raster_Check.mono _ _ _ _
   | exact raster_fill__raster_Join_1.mono _ _ _ _ _
   | exact LeO.none _
   | refine LeO.ite ?_ ?_
   | refine LeO.bind ?_ (fun _ => ?_)
  ·intro y0 y1 y2 y3 y4 y5 y6 y7 y8 y9 y10
   unfold raster_Join.j2
   repeat' first
   | (with_reducible exact ih0 _ _ _ _)
   | (with_reducible exact ih1 _ _ _ _ _ _ _)
   | (with_reducible exact ih2 _ _ _ _ _ _ _ _ _ _ _)
   | (with_reducible exact raster_Check.mono _ _ _ _)
   | (with_reducible exact raster_fill__raster_Join_1.mono _ _ _ _ _)
   | (with_reducible exact LeO.refl _)
   | (with_reducible exact LeO.none _)
   | (with_reducible refine LeO.ite ?_ ?_)
   | (with_reducible refine LeO.bind ?_ (fun _ => ?_))
   | exact ih0 _ _ _ _
   | exact ih1 _ _ _ _ _ _ _
   | exact ih2 _ _ _ _ _ _ _ _ _ _ _
   | exact raster_Check.mono _ _ _ _
   | exact raster_fill__raster_Join_1.mono _ _ _ _ _
   | exact LeO.none _
   | refine LeO.ite ?_ ?_
   | refine LeO.bind ?_ (fun _ => ?_)
theorem raster_Join.mono : ∀ a0 a1 a2 k, LeO (raster_Join.f k a0 a1 a2) (raster_Join.f (k + 1) a0 a1 a2) := by
 intro a0 a1 a2 k
 obtain ⟨ih0, ih1, ih2⟩ := raster_Join.mono_l k
 unfold raster_Join.f
 repeat' first
   | (with_reducible exact ih0 _ _ _ _)
   | (with_reducible exact ih1 _ _ _ _ _ _ _)
   | (with_reducible exact ih2 _ _ _ _ _ _ _ _ _ _ _)
   | (with_reducible exact raster_Check.mono _ _ _ _)
   | (with_reducible exact raster_fill__raster_Join_1.mono _ _ _ _ _)
   | (with_reducible exact LeO.refl _)
   | (with_reducible exact LeO.none _)
   | (with_reducible refine LeO.ite ?_ ?_)
   | (with_reducible refine LeO.bind ?_ (fun _ => ?_))
   | exact ih0 _ _ _ _
   | exact ih1 _ _ _ _ _ _ _
   | exact ih2 _ _ _ _ _ _ _ _ _ _ _
   | exact raster_Check.mono _ _ _ _
   | exact raster_fill__raster_Join_1.mono _ _ _ _ _
   | exact LeO.none _
   | refine LeO.ite ?_ ?_
   | refine LeO.bind ?_ (fun _ => ?_)
set_option maxHeartbeats 8000000 in
set_option maxRecDepth 100000 in
theorem raster_Join.calls (k : Nat) (a0 : Int) (a1 : Int) (A2 : Option Addr) (c2 : Nat) (l2 : List (S24)) (r1 : Int) (r2 : Int) (r3 : List (S26)) (r4 : Int) (w : World) (hr2 : Kd.C k24 w A2 l2.length l2) (hc2 : l2.length ≤ c2) (h : raster_Join.f k a0 a1 l2 = some (r1, r2, r3, r4)) :
  Calls Try.prog 35 #[.int .i64 a0, .int .i64 a1, .slice A2 l2.length c2] w fun e w' => ∃ v2_ : Value, e = .returned (.tuple #[.agg #[.int .i64 r1, .int .i64 r2, v2_], .int .i64 r4]) ∧ Kd.R k26 26 w' w.heap.size (fun _ => True) v2_ r3 ∧ Below w.heap.size w w' := by
 have hu24 := Try.underlying24
 have HR2 := Aside0.mk hr2
 have HC2 := Aside0.mk hc2
 clear hr2 hc2
 have HB := Aside0.mk (Below.refl w.heap.size w)
 have H : (if a0 < 1 then (raster_Join.j0 k a0 a1 true l2) else (if a0 > 256 then (raster_Join.j0 k a0 a1 true l2) else (if a1 < 1 then (raster_Join.j0 k a0 a1 true l2) else (raster_Join.j0 k a0 a1 (decide (a1 > 256)) l2)))) = some (r1, r2, r3, r4) := h
 clear h
 have HC4 := Aside0.mk H
 clear H
 go_enter Try.func35, Try.ntmps35
 go_upto_region 1 with (first | ((with_reducible refine gate_dst (N := 5) rfl ?_); (try (refine gate_guard (by rfl) ?_; dsimp only)); refine box_event ?hg (N := 5) ?hd (cs := #[.slice A2 l2.length c2]) (t := 47) ?hr ?_; (case hd => rfl); (case hg => rfl); (case hr => first | (go_simp; done) | (go_simp; rfl)); intro gb407 hg w5 hbox hb; have GW407 := zg HB hg; have GE407 := zg HB hg; have n0_ := Aside0.mk (hbox); replace HB := zb HB hb; have BK407 := n0_; clear n0_; clear hb hbox hg) | ((with_reducible refine gate_dst (N := 6) rfl ?_); (try (refine gate_guard (by rfl) ?_; dsimp only)); refine box_event ?hg (N := 6) ?hd (cs := #[.int .i64 0, .int .i64 0, .slice none 0 0]) (t := 24) ?hr ?_; (case hd => rfl); (case hg => rfl); (case hr => first | (go_simp; done) | (go_simp; rfl)); intro gb408 hg w6 hbox hb; have GW408 := zg HB hg; have GE408 := zg HB hg; have NB407_408 := zn BK407 hg; have NB408_407 := zn' BK407 hg; have n0_ := Aside0.mk (hbox); replace BK407 := zk BK407 hb; replace HB := zb HB hb; have BK408 := n0_; clear n0_; clear hb hbox hg))
 repeat (go_quiet (first | ((with_reducible refine gate_dst (N := 5) rfl ?_); (try (refine gate_guard (by rfl) ?_; dsimp only)); refine box_event ?hg (N := 5) ?hd (cs := #[.slice A2 l2.length c2]) (t := 47) ?hr ?_; (case hd => rfl); (case hg => rfl); (case hr => first | (go_simp; done) | (go_simp; rfl)); intro gb407 hg w5 hbox hb; have GW407 := zg HB hg; have GE407 := zg HB hg; have n0_ := Aside0.mk (hbox); replace HB := zb HB hb; have BK407 := n0_; clear n0_; clear hb hbox hg) | ((with_reducible refine gate_dst (N := 6) rfl ?_); (try (refine gate_guard (by rfl) ?_; dsimp only)); refine box_event ?hg (N := 6) ?hd (cs := #[.int .i64 0, .int .i64 0, .slice none 0 0]) (t := 24) ?hr ?_; (case hd => rfl); (case hg => rfl); (case hr => first | (go_simp; done) | (go_simp; rfl)); intro gb408 hg w6 hbox hb; have GW408 := zg HB hg; have GE408 := zg HB hg; have NB407_408 := zn BK407 hg; have NB408_407 := zn' BK407 hg; have n0_ := Aside0.mk (hbox); replace BK407 := zk BK407 hb; replace HB := zb HB hb; have BK408 := n0_; clear n0_; clear hb hbox hg)); go_upto_region 1 with (first | ((with_reducible refine gate_dst (N := 5) rfl ?_); (try (refine gate_guard (by rfl) ?_; dsimp only)); refine box_event ?hg (N := 5) ?hd (cs := #[.slice A2 l2.length c2]) (t := 47) ?hr ?_; (case hd => rfl); (case hg => rfl); (case hr => first | (go_simp; done) | (go_simp; rfl)); intro gb407 hg w5 hbox hb; have GW407 := zg HB hg; have GE407 := zg HB hg; have n0_ := Aside0.mk (hbox); replace HB := zb HB hb; have BK407 := n0_; clear n0_; clear hb hbox hg) | ((with_reducible refine gate_dst (N := 6) rfl ?_); (try (refine gate_guard (by rfl) ?_; dsimp only)); refine box_event ?hg (N := 6) ?hd (cs := #[.int .i64 0, .int .i64 0, .slice none 0 0]) (t := 24) ?hr ?_; (case hd => rfl); (case hg => rfl); (case hr => first | (go_simp; done) | (go_simp; rfl)); intro gb408 hg w6 hbox hb; have GW408 := zg HB hg; have GE408 := zg HB hg; have NB407_408 := zn BK407 hg; have NB408_407 := zn' BK407 hg; have n0_ := Aside0.mk (hbox); replace BK407 := zk BK407 hb; replace HB := zb HB hb; have BK408 := n0_; clear n0_; clear hb hbox hg)))
 (try simp only [Act.put, sA, sB, sC])
 go_cut [26] (fun v26 wc => ∃ (kq : Nat) (x26_3 : Bool), v26 = .bool x26_3 ∧ Aside0 (raster_Join.j0 kq a0 a1 x26_3 l2 = some (r1, r2, r3, r4)) ∧ Aside0 (kq ≤ k) ∧ Aside0 (wc.heap[gb407]? = some (.cells #[(.slice A2 l2.length c2)] 47 (0, 0))) ∧ Aside0 (wc.heap[gb408]? = some (.cells #[.int .i64 0, .int .i64 0, (.slice none 0 0)] 24 (0, 0))) ∧ Aside0 (Below w.heap.size w wc))
 case first =>
  have H := HC4.out
  clear HC4
  by_cases c7 : a0 < 1
  ·rw [if_pos c7] at H
   have c7b0 : decide (a0 < 1) = true := decide_eq_true c7
   clear c7
   (first | rw [c7b0] | (simp only [i64_w, i32_w]; rw [c7b0]) | skip)
   have H' := Aside0.mk H
   clear H
   go_wp2
   repeat (go_quiet (fail); try go_wp2)
   go_meet
   case rel => exact ⟨_, (true), (by first | rfl | (simp; done) | (simp [*]; done)), H', ⟨by first | omega | exact Nat.le_refl _⟩, ⟨by exact zk0 BK407⟩, ⟨by exact zk0 BK408⟩, ⟨by exact zb0 HB⟩⟩
  ·rw [if_neg c7] at H
   have c7b0 : decide (a0 < 1) = false := decide_eq_false c7
   clear c7
   (first | rw [c7b0] | (simp only [i64_w, i32_w]; rw [c7b0]) | skip)
   by_cases c8 : a0 > 256
   ·rw [if_pos c8] at H
    have c8b0 : decide (256 < a0) = true := decide_eq_true c8
    clear c8
    have H' := Aside0.mk H
    clear H
    go_wp2
    repeat (go_quiet (fail); try go_wp2)
    go_meet
    case rel => exact ⟨_, (true), (by first | rfl | (simp; done) | (simp [*]; done)), H', ⟨by first | omega | exact Nat.le_refl _⟩, ⟨by exact zk0 BK407⟩, ⟨by exact zk0 BK408⟩, ⟨by exact zb0 HB⟩⟩
   ·rw [if_neg c8] at H
    have c8b0 : decide (256 < a0) = false := decide_eq_false c8
    clear c8
    by_cases c9 : a1 < 1
    ·rw [if_pos c9] at H
     have c9b0 : decide (a1 < 1) = true := decide_eq_true c9
     clear c9
     have H' := Aside0.mk H
     clear H
     go_wp2
     repeat (go_quiet (fail); try go_wp2)
     go_meet
     case rel => exact ⟨_, (true), (by first | rfl | (simp; done) | (simp [*]; done)), H', ⟨by first | omega | exact Nat.le_refl _⟩, ⟨by exact zk0 BK407⟩, ⟨by exact zk0 BK408⟩, ⟨by exact zb0 HB⟩⟩
    ·rw [if_neg c9] at H
     have c9b0 : decide (a1 < 1) = false := decide_eq_false c9
     clear c9
     have H' := Aside0.mk H
     clear H
     go_wp2
     repeat (go_quiet (fail); try go_wp2)
     go_meet
     case rel => exact ⟨_, (decide (a1 > 256)), (by first | rfl | (simp; done) | (simp [*]; done)), H', ⟨by first | omega | exact Nat.le_refl _⟩, ⟨by exact zk0 BK407⟩, ⟨by exact zk0 BK408⟩, ⟨by exact zb0 HB⟩⟩
 case rest =>
  clear HC4
  try clear c2
  try clear p2
  try clear c3
  try clear c7
  try clear c7b0
  try clear c8
  try clear c8b0
  try clear c9
  try clear c9b0
  obtain ⟨kq, x26_3, rfl, HA, HJ3, BK407, BK408, HB⟩ := hcut
  cases kq with
  | zero => exact absurd HA.out (by simp [raster_Join.j0])
  | succ kj3 =>
   have H := HA.out
   clear HA
   simp only [raster_Join.j0] at H
   by_cases c10 : x26_3 = true
   ·subst c10
    have H1 : (some (0, 0, ([] : List (S26)), 15)) = some (r1, r2, r3, r4) := by rw [if_pos rfl] at H; exact H
    clear H
    have H := H1
    clear H1
    simp only [Option.some.injEq, Prod.mk.injEq] at H
    obtain ⟨rfl, rfl, rfl, rfl⟩ := H
    have hnb11 := NB408_407.out
    have hnc11 := NB407_408.out
    obtain ⟨hcz12_0, hcz12_1, hcz12_2, hfz12_0, hfz12_1, hfz12_2⟩ := zq3 BK408
    go_wp2
    repeat (go_quiet (fail); try go_wp2)
    refine bodyPost_ret (results_ct rfl _ _ gb408 24 #[.int .i64 0, .int .i64 0, .slice none 0 0] (0, 0) _ rfl (by exact zp BK408 rfl) Try.underlying24 rfl (by kernel_rfl)) rfl ?_
    exact ⟨_, by first | rfl | (simp [errW_none, errW_some] <;> rfl) | (simp [*, errW_none, errW_some] <;> rfl), by first | exact Kd.R_nil _ _ _ _ _ | exact Kd.N_nil _ _ _ _ _ | exact Kd.V_nil _ _ _ _ _ | exact Kd.Q_nil _ _ _ _ _ | exact Kd.S_nil _ _ _ _ _, by exact zbo HB GE408⟩
   ·replace c10 := Bool.eq_false_iff.mpr c10
    subst c10
    have H1 : (if (l2.length : Int) = (wrap64 ((wrap64 (Int.tdiv (wrap64 ((wrap64 (a0 + 16)) - 1)) 16)) * (wrap64 (Int.tdiv (wrap64 ((wrap64 (a1 + 16)) - 1)) 16)))) then (raster_Join.l0 kj3 a0 a1 l2 (l2.length : Int) 0 l2 (wrap64 (Int.tdiv (wrap64 ((wrap64 (a0 + 16)) - 1)) 16))) else (some (0, 0, ([] : List (S26)), 15))) = some (r1, r2, r3, r4) := by rw [if_neg (show ¬ (false = true) by decide)] at H; exact H
    clear H
    have H := H1
    clear H1
    by_cases c13 : (l2.length : Int) = (wrap64 ((wrap64 (Int.tdiv (wrap64 ((wrap64 (a0 + 16)) - 1)) 16)) * (wrap64 (Int.tdiv (wrap64 ((wrap64 (a1 + 16)) - 1)) 16))))
    ·rw [if_pos c13] at H
     have c13b0 : ((l2.length : Int) == (wrap64 ((wrap64 (Int.tdiv (wrap64 ((wrap64 (a0 + 16)) - 1)) 16)) * (wrap64 (Int.tdiv (wrap64 ((wrap64 (a1 + 16)) - 1)) 16))))) = true := beq_iff_eq.mpr c13
     have c13b1 : ((l2.length : Int) != (wrap64 ((wrap64 (Int.tdiv (wrap64 ((wrap64 (a0 + 16)) - 1)) 16)) * (wrap64 (Int.tdiv (wrap64 ((wrap64 (a1 + 16)) - 1)) 16))))) = false := bne_eq_false_iff_eq.mpr c13
     clear c13
     have H' := Aside0.mk H
     clear H
     go_wp2_with (first | ((with_reducible refine gate_dst (N := 8) rfl ?_); (try (refine gate_guard (by rfl) ?_; dsimp only)); refine box_event ?hg (N := 8) ?hd (cs := #[.int .i64 0]) (t := 3) ?hr ?_; (case hd => rfl); (case hg => rfl); (case hr => first | (go_simp; done) | (go_simp; rfl)); intro gb409 hg w14 hbox hb; have GW409 := zg HB hg; have GE409 := zg HB hg; have NB407_409 := zn BK407 hg; have NB409_407 := zn' BK407 hg; have NB408_409 := zn BK408 hg; have NB409_408 := zn' BK408 hg; have n0_ := Aside0.mk (hbox); replace BK407 := zk BK407 hb; replace BK408 := zk BK408 hb; replace HB := zb HB hb; have BK409 := n0_; clear n0_; clear hb hbox hg; have hnb15 := NB409_407.out; have hnc15 := NB407_409.out; have hnb16 := NB409_408.out; have hnc16 := NB408_409.out; obtain ⟨hcz17_0, hfz17_0⟩ := zq1 BK409; have hnb18 := NB407_408.out; have hnc18 := NB408_407.out; obtain ⟨hcz19_0, hfz19_0⟩ := zq1 BK407))
     repeat (go_quiet (first | ((with_reducible refine gate_dst (N := 8) rfl ?_); (try (refine gate_guard (by rfl) ?_; dsimp only)); refine box_event ?hg (N := 8) ?hd (cs := #[.int .i64 0]) (t := 3) ?hr ?_; (case hd => rfl); (case hg => rfl); (case hr => first | (go_simp; done) | (go_simp; rfl)); intro gb409 hg w14 hbox hb; have GW409 := zg HB hg; have GE409 := zg HB hg; have NB407_409 := zn BK407 hg; have NB409_407 := zn' BK407 hg; have NB408_409 := zn BK408 hg; have NB409_408 := zn' BK408 hg; have n0_ := Aside0.mk (hbox); replace BK407 := zk BK407 hb; replace BK408 := zk BK408 hb; replace HB := zb HB hb; have BK409 := n0_; clear n0_; clear hb hbox hg; have hnb15 := NB409_407.out; have hnc15 := NB407_409.out; have hnb16 := NB409_408.out; have hnc16 := NB408_409.out; obtain ⟨hcz17_0, hfz17_0⟩ := zq1 BK409; have hnb18 := NB407_408.out; have hnc18 := NB408_407.out; obtain ⟨hcz19_0, hfz19_0⟩ := zq1 BK407)); try go_wp2_with (first | ((with_reducible refine gate_dst (N := 8) rfl ?_); (try (refine gate_guard (by rfl) ?_; dsimp only)); refine box_event ?hg (N := 8) ?hd (cs := #[.int .i64 0]) (t := 3) ?hr ?_; (case hd => rfl); (case hg => rfl); (case hr => first | (go_simp; done) | (go_simp; rfl)); intro gb409 hg w14 hbox hb; have GW409 := zg HB hg; have GE409 := zg HB hg; have NB407_409 := zn BK407 hg; have NB409_407 := zn' BK407 hg; have NB408_409 := zn BK408 hg; have NB409_408 := zn' BK408 hg; have n0_ := Aside0.mk (hbox); replace BK407 := zk BK407 hb; replace BK408 := zk BK408 hb; replace HB := zb HB hb; have BK409 := n0_; clear n0_; clear hb hbox hg; have hnb15 := NB409_407.out; have hnc15 := NB407_409.out; have hnb16 := NB409_408.out; have hnc16 := NB408_409.out; obtain ⟨hcz17_0, hfz17_0⟩ := zq1 BK409; have hnb18 := NB407_408.out; have hnc18 := NB408_407.out; obtain ⟨hcz19_0, hfz19_0⟩ := zq1 BK407)))
     (try simp only [Act.put, sA, sB, sC])
     go_loopg [45] kj3 (fun kq v45 w' => ∃ (x45_2 : Int) (x409000_2 : Int) (x409001_2 : Int), v45 = .int .i64 x45_2 ∧ Aside0 (raster_Join.l0 kq a0 a1 l2 (l2.length : Int) x45_2 l2 (wrap64 (Int.tdiv (wrap64 ((wrap64 (a0 + 16)) - 1)) 16)) = some (r1, r2, r3, r4)) ∧ Aside0 (kq ≤ kj3) ∧ Aside0 (w'.heap[gb407]? = some (.cells #[(.slice A2 l2.length c2)] 47 (0, 0))) ∧ Aside0 (w'.heap[gb408]? = some (.cells #[.int .i64 x409000_2, .int .i64 x409001_2, (.slice none 0 0)] 24 (0, 0))) ∧ Aside0 (w'.heap[gb409]? = some (.cells #[.int .i64 (wrap64 (Int.tdiv (wrap64 ((wrap64 (a0 + 16)) - 1)) 16))] 3 (0, 0))) ∧ Aside0 (Below w.heap.size w w'))
     case atStart => exact ⟨(0), (0), (0), (by first | rfl | (simp; done) | (simp [*]; done)), H', ⟨Nat.le_refl _⟩, ⟨by exact zf BK407 NB407_409⟩, ⟨by exact zf BK408 NB408_409⟩, ⟨by exact zp BK409 rfl⟩, ⟨by exact zbo HB GE409⟩⟩
     case round =>
      clear H'
      try clear c1
      try clear q1
      try clear c2
      try clear p2
      try clear c3
      try clear q3
      try clear p6
      try clear c7
      try clear c7b0
      try clear c8
      try clear c8b0
      try clear c9
      try clear c9b0
      try clear c10
      try clear c11
      try clear c13
      try clear c13b0
      try clear c13b1
      try clear c15
      try clear c16
      try clear c18
      try clear hcz12_0
      try clear hcz12_1
      try clear hcz12_2
      try clear hcz17_0
      try clear hcz19_0
      try clear hfz12_0
      try clear hfz12_1
      try clear hfz12_2
      try clear hfz17_0
      try clear hfz19_0
      try clear p2
      obtain ⟨x45_2, x409000_2, x409001_2, rfl, HA, HK2, BK407, BK408, BK409, HB⟩ := hrel
      cases gk with
      | zero => exact absurd HA.out (by simp [raster_Join.l0])
      | succ k2 =>
       have H := HA.out
       clear HA
       simp only [raster_Join.l0] at H
       by_cases c20 : x45_2 < (l2.length : Int)
       ·rw [if_pos c20] at H
        have c20b0 : decide (x45_2 < (l2.length : Int)) = true := decide_eq_true c20
        clear c20
        by_cases c21 : 0 ≤ x45_2
        ·rw [if_pos c21] at H
         have c21b0 : decide (0 ≤ x45_2) = true := decide_eq_true c21
         clear c21
         by_cases c22 : x45_2 < (l2.length : Int)
         ·rw [if_pos c22] at H
          have c22b0 : decide (x45_2 < (l2.length : Int)) = true := decide_eq_true c22
          clear c22
          have HC23 := Aside0.mk H
          clear H
          have p415 : 0 ≤ (x45_2 : Int) := of_decide_eq_true (by first | (with_reducible assumption) | assumption)
          have q415 : x45_2 < (l2.length : Int) := of_decide_eq_true (by first | (with_reducible assumption) | assumption)
          obtain ⟨ad415, A415_2, c415_2, e415, hx415_0, hx415_1, hx415_2, hl415_2, hi415_2⟩ := at_T24 HR2.out x45_2 p415 q415
          cases e415
          replace hx415_0 := (HB.out.cell (World.block_lt_of_cell? w _ hx415_0)).trans hx415_0
          replace hx415_1 := (HB.out.cell (World.block_lt_of_cell? w _ hx415_1)).trans hx415_1
          replace hx415_2 := (HB.out.cell (World.block_lt_of_cell? w _ hx415_2)).trans hx415_2
          have HR415_2 := Aside0.mk hi415_2
          have HC415_2 := Aside0.mk hl415_2
          clear hi415_2 hl415_2
          replace p415 := eq_true p415
          replace q415 := eq_true q415
          go_upto_region 9 with (first | ((with_reducible refine gate_dst (N := 11) rfl ?_); (try (refine gate_guard (by rfl) ?_; dsimp only)); refine box_event ?hg (N := 11) ?hd (cs := #[.int .i64 0, .int .i64 0, .slice none 0 0]) (t := 24) ?hr ?_; (case hd => rfl); (case hg => rfl); (case hr => first | (go_simp; done) | (go_simp; rfl)); intro gb416 hg w24 hbox hb; have GW416 := zg HB hg; have GE416 := zg HB hg; have NB407_416 := zn BK407 hg; have NB416_407 := zn' BK407 hg; have NB408_416 := zn BK408 hg; have NB416_408 := zn' BK408 hg; have NB409_416 := zn BK409 hg; have NB416_409 := zn' BK409 hg; have n0_ := Aside0.mk (hbox); replace BK407 := zk BK407 hb; replace BK408 := zk BK408 hb; replace BK409 := zk BK409 hb; replace HB := zb HB hb; have BK416 := n0_; clear n0_; clear hb hbox hg; have hnb25 := NB416_407.out; have hnc25 := NB407_416.out; have hnb26 := NB416_408.out; have hnc26 := NB408_416.out; have hnb27 := NB416_409.out; have hnc27 := NB409_416.out; obtain ⟨hcz28_0, hcz28_1, hcz28_2, hfz28_0, hfz28_1, hfz28_2⟩ := zq3 BK416))
          repeat (go_quiet (first | ((with_reducible refine gate_dst (N := 11) rfl ?_); (try (refine gate_guard (by rfl) ?_; dsimp only)); refine box_event ?hg (N := 11) ?hd (cs := #[.int .i64 0, .int .i64 0, .slice none 0 0]) (t := 24) ?hr ?_; (case hd => rfl); (case hg => rfl); (case hr => first | (go_simp; done) | (go_simp; rfl)); intro gb416 hg w24 hbox hb; have GW416 := zg HB hg; have GE416 := zg HB hg; have NB407_416 := zn BK407 hg; have NB416_407 := zn' BK407 hg; have NB408_416 := zn BK408 hg; have NB416_408 := zn' BK408 hg; have NB409_416 := zn BK409 hg; have NB416_409 := zn' BK409 hg; have n0_ := Aside0.mk (hbox); replace BK407 := zk BK407 hb; replace BK408 := zk BK408 hb; replace BK409 := zk BK409 hb; replace HB := zb HB hb; have BK416 := n0_; clear n0_; clear hb hbox hg; have hnb25 := NB416_407.out; have hnc25 := NB407_416.out; have hnb26 := NB416_408.out; have hnc26 := NB408_416.out; have hnb27 := NB416_409.out; have hnc27 := NB409_416.out; obtain ⟨hcz28_0, hcz28_1, hcz28_2, hfz28_0, hfz28_1, hfz28_2⟩ := zq3 BK416)); go_upto_region 9 with (first | ((with_reducible refine gate_dst (N := 11) rfl ?_); (try (refine gate_guard (by rfl) ?_; dsimp only)); refine box_event ?hg (N := 11) ?hd (cs := #[.int .i64 0, .int .i64 0, .slice none 0 0]) (t := 24) ?hr ?_; (case hd => rfl); (case hg => rfl); (case hr => first | (go_simp; done) | (go_simp; rfl)); intro gb416 hg w24 hbox hb; have GW416 := zg HB hg; have GE416 := zg HB hg; have NB407_416 := zn BK407 hg; have NB416_407 := zn' BK407 hg; have NB408_416 := zn BK408 hg; have NB416_408 := zn' BK408 hg; have NB409_416 := zn BK409 hg; have NB416_409 := zn' BK409 hg; have n0_ := Aside0.mk (hbox); replace BK407 := zk BK407 hb; replace BK408 := zk BK408 hb; replace BK409 := zk BK409 hb; replace HB := zb HB hb; have BK416 := n0_; clear n0_; clear hb hbox hg; have hnb25 := NB416_407.out; have hnc25 := NB407_416.out; have hnb26 := NB416_408.out; have hnc26 := NB408_416.out; have hnb27 := NB416_409.out; have hnc27 := NB409_416.out; obtain ⟨hcz28_0, hcz28_1, hcz28_2, hfz28_0, hfz28_1, hfz28_2⟩ := zq3 BK416)))
          (try simp only [Act.put, sA, sB, sC])
          go_cut [71] (fun v71 wc => ∃ (kq : Nat) (x71_22 : Bool), v71 = .bool x71_22 ∧ Aside0 (raster_Join.j2 kq a0 a1 l2 (l2.length : Int) x45_2 x71_22 l2 (wrap64 (Int.tdiv (wrap64 ((wrap64 (a0 + 16)) - 1)) 16)) ((rd_T24 l2 x45_2).f0) ((rd_T24 l2 x45_2).f1) ((rd_T24 l2 x45_2).f2) = some (r1, r2, r3, r4)) ∧ Aside0 (kq ≤ k2) ∧ Aside0 (wc.heap[gb407]? = some (.cells #[(.slice (some ad415) l2.length c2)] 47 (0, 0))) ∧ Aside0 (wc.heap[gb408]? = some (.cells #[.int .i64 x409000_2, .int .i64 x409001_2, (.slice none 0 0)] 24 (0, 0))) ∧ Aside0 (wc.heap[gb409]? = some (.cells #[.int .i64 (wrap64 (Int.tdiv (wrap64 ((wrap64 (a0 + 16)) - 1)) 16))] 3 (0, 0))) ∧ Aside0 (wc.heap[gb416]? = some (.cells #[.int .i64 ((rd_T24 l2 x45_2).f0), .int .i64 ((rd_T24 l2 x45_2).f1), (.slice A415_2 ((rd_T24 l2 x45_2).f2).length c415_2)] 24 (0, 0))) ∧ Aside0 (Below w.heap.size w wc))
          case first =>
           have H := HC23.out
           clear HC23
           by_cases c29 : (wrap64 (Int.tdiv (wrap64 ((wrap64 (a0 + 16)) - 1)) 16)) = 0
           ·rw [if_pos c29] at H
            exact absurd H (by simp)
           ·rw [if_neg c29] at H
            have c29b0 : ((wrap64 (Int.tdiv (wrap64 ((wrap64 (a0 + 16)) - 1)) 16)) == 0) = false := beq_eq_false_iff_ne.mpr c29
            have c29b1 : ((wrap64 (Int.tdiv (wrap64 ((wrap64 (a0 + 16)) - 1)) 16)) != 0) = true := bne_iff_ne.mpr c29
            (first | rw [c29b0] | (simp only [i64_w, i32_w]; rw [c29b0]) | skip)
            obtain ⟨ji30, hji30⟩ : ∃ j_ : Int, (mn 16 (wrap64 (a0 - (wrap64 ((Int.tmod x45_2 (wrap64 (Int.tdiv (wrap64 ((wrap64 (a0 + 16)) - 1)) 16))) * 16))))) = j_ := ⟨_, rfl⟩
            replace H : (if ((rd_T24 l2 x45_2).f0) = (ji30) then (raster_Join.j2 k2 a0 a1 l2 (l2.length : Int) x45_2 (((rd_T24 l2 x45_2).f1) != (mn 16 (wrap64 (a1 - (wrap64 ((wrap64 (Int.tdiv x45_2 (wrap64 (Int.tdiv (wrap64 ((wrap64 (a0 + 16)) - 1)) 16)))) * 16)))))) l2 (wrap64 (Int.tdiv (wrap64 ((wrap64 (a0 + 16)) - 1)) 16)) ((rd_T24 l2 x45_2).f0) ((rd_T24 l2 x45_2).f1) ((rd_T24 l2 x45_2).f2)) else (raster_Join.j2 k2 a0 a1 l2 (l2.length : Int) x45_2 true l2 (wrap64 (Int.tdiv (wrap64 ((wrap64 (a0 + 16)) - 1)) 16)) ((rd_T24 l2 x45_2).f0) ((rd_T24 l2 x45_2).f1) ((rd_T24 l2 x45_2).f2))) = some (r1, r2, r3, r4) := by first | (rw [hji30] at H; exact H) | (simp only [hji30] at H ⊢; exact H)
            have hji30_ : (if (wrap64 (a0 - (wrap64 ((Int.tmod x45_2 (wrap64 (Int.tdiv (wrap64 ((wrap64 (a0 + 16)) - 1)) 16))) * 16)))) < 16 then (wrap64 (a0 - (wrap64 ((Int.tmod x45_2 (wrap64 (Int.tdiv (wrap64 ((wrap64 (a0 + 16)) - 1)) 16))) * 16)))) else 16) = ji30 := hji30
            by_cases c31 : ((rd_T24 l2 x45_2).f0) = (ji30)
            ·rw [if_pos c31] at H
             have c31b0 : (((rd_T24 l2 x45_2).f0) == (ji30)) = true := beq_iff_eq.mpr c31
             have c31b1 : (((rd_T24 l2 x45_2).f0) != (ji30)) = false := bne_eq_false_iff_eq.mpr c31
             clear c31
             obtain ⟨ji32, hji32⟩ : ∃ j_ : Int, (mn 16 (wrap64 (a1 - (wrap64 ((wrap64 (Int.tdiv x45_2 (wrap64 (Int.tdiv (wrap64 ((wrap64 (a0 + 16)) - 1)) 16)))) * 16))))) = j_ := ⟨_, rfl⟩
             replace H : (raster_Join.j2 k2 a0 a1 l2 (l2.length : Int) x45_2 (((rd_T24 l2 x45_2).f1) != (ji32)) l2 (wrap64 (Int.tdiv (wrap64 ((wrap64 (a0 + 16)) - 1)) 16)) ((rd_T24 l2 x45_2).f0) ((rd_T24 l2 x45_2).f1) ((rd_T24 l2 x45_2).f2)) = some (r1, r2, r3, r4) := by first | (rw [hji32] at H; exact H) | (simp only [hji32] at H ⊢; exact H)
             have hji32_ : (if (wrap64 (a1 - (wrap64 ((wrap64 (Int.tdiv x45_2 (wrap64 (Int.tdiv (wrap64 ((wrap64 (a0 + 16)) - 1)) 16)))) * 16)))) < 16 then (wrap64 (a1 - (wrap64 ((wrap64 (Int.tdiv x45_2 (wrap64 (Int.tdiv (wrap64 ((wrap64 (a0 + 16)) - 1)) 16)))) * 16)))) else 16) = ji32 := hji32
             have H' := Aside0.mk H
             clear H
             obtain ⟨hcz33_0, hcz33_1, hcz33_2, hfz33_0, hfz33_1, hfz33_2⟩ := zq3 BK416
             obtain ⟨hcz34_0, hfz34_0⟩ := zq1 BK409
             go_wp2
             repeat (go_quiet (fail); try go_wp2)
             go_meet
             case rel => exact ⟨_, ((((rd_T24 l2 x45_2).f1) != (ji32))), (by first | rfl | (simp; done) | (simp only [← hji32] <;> (first | rfl | simp)) | (simp [*]; done)), H', ⟨by have := HJ3.out; have := HK2.out; first | omega | exact Nat.le_refl _⟩, ⟨by exact zf BK407 NB407_416⟩, ⟨by exact zf BK408 NB408_416⟩, ⟨by exact zf BK409 NB409_416⟩, ⟨by exact zp BK416 rfl⟩, ⟨by exact zbo HB GE416⟩⟩
            ·rw [if_neg c31] at H
             have c31b0 : (((rd_T24 l2 x45_2).f0) == (ji30)) = false := beq_eq_false_iff_ne.mpr c31
             have c31b1 : (((rd_T24 l2 x45_2).f0) != (ji30)) = true := bne_iff_ne.mpr c31
             have H' := Aside0.mk H
             clear H
             obtain ⟨hcz35_0, hcz35_1, hcz35_2, hfz35_0, hfz35_1, hfz35_2⟩ := zq3 BK416
             obtain ⟨hcz36_0, hfz36_0⟩ := zq1 BK409
             go_wp2
             repeat (go_quiet (fail); try go_wp2)
             go_meet
             case rel => exact ⟨_, (true), (by first | rfl | (simp; done) | (simp [*]; done)), H', ⟨by have := HJ3.out; have := HK2.out; first | omega | exact Nat.le_refl _⟩, ⟨by exact zf BK407 NB407_416⟩, ⟨by exact zf BK408 NB408_416⟩, ⟨by exact zf BK409 NB409_416⟩, ⟨by exact zp BK416 rfl⟩, ⟨by exact zbo HB GE416⟩⟩
          case rest =>
           clear HC23
           try clear c1
           try clear q1
           try clear c2
           try clear p2
           try clear c3
           try clear q3
           try clear c4
           try clear p4
           try clear q4
           try clear hx4
           try clear p6
           try clear c7
           try clear c7b0
           try clear c8
           try clear c8b0
           try clear c9
           try clear c9b0
           try clear c10
           try clear c11
           try clear c13
           try clear c13b0
           try clear c13b1
           try clear c15
           try clear c16
           try clear c18
           try clear c20
           try clear c20b0
           try clear c21
           try clear c21b0
           try clear c22
           try clear c22b0
           try clear c25
           try clear c26
           try clear c27
           try clear c29
           try clear c29b0
           try clear c29b1
           try clear c31
           try clear c31b0
           try clear c31b1
           try clear c35
           try clear hcz12_0
           try clear hcz12_1
           try clear hcz12_2
           try clear hcz17_0
           try clear hcz19_0
           try clear hcz28_0
           try clear hcz28_1
           try clear hcz28_2
           try clear hcz33_0
           try clear hcz33_1
           try clear hcz33_2
           try clear hcz34_0
           try clear hcz35_0
           try clear hcz35_1
           try clear hcz35_2
           try clear hcz36_0
           try clear hfz12_0
           try clear hfz12_1
           try clear hfz12_2
           try clear hfz17_0
           try clear hfz19_0
           try clear hfz28_0
           try clear hfz28_1
           try clear hfz28_2
           try clear hfz33_0
           try clear hfz33_1
           try clear hfz33_2
           try clear hfz34_0
           try clear hfz35_0
           try clear hfz35_1
           try clear hfz35_2
           try clear hfz36_0
           try clear hx415_0
           try clear hx415_1
           try clear hx415_2
           try clear p2
           try clear p415
           try clear p6
           try clear q1
           try clear q3
           try clear q415
           obtain ⟨kq, x71_22, rfl, HA, HJ22, BK407, BK408, BK409, BK416, HB⟩ := hcut
           cases kq with
           | zero => exact absurd HA.out (by simp [raster_Join.j2])
           | succ kj22 =>
            have H := HA.out
            clear HA
            simp only [raster_Join.j2] at H
            by_cases c37 : x71_22 = true
            ·subst c37
             have H1 : (some (0, 0, ([] : List (S26)), 15)) = some (r1, r2, r3, r4) := by rw [if_pos rfl] at H; exact H
             clear H
             have H := H1
             clear H1
             simp only [Option.some.injEq, Prod.mk.injEq] at H
             obtain ⟨rfl, rfl, rfl, rfl⟩ := H
             have hnb38 := NB408_407.out
             have hnc38 := NB407_408.out
             have hnb39 := NB408_409.out
             have hnc39 := NB409_408.out
             have hnb40 := NB408_416.out
             have hnc40 := NB416_408.out
             obtain ⟨hcz41_0, hcz41_1, hcz41_2, hfz41_0, hfz41_1, hfz41_2⟩ := zq3 BK408
             go_wp2
             repeat (go_quiet (fail); try go_wp2)
             refine bodyPost_ret (results_ct rfl _ _ gb408 24 #[.int .i64 0, .int .i64 0, .slice none 0 0] (0, 0) _ rfl (by exact zp BK408 rfl) Try.underlying24 rfl (by kernel_rfl)) rfl ?_
             exact ⟨_, by first | rfl | (simp [errW_none, errW_some] <;> rfl) | (simp [*, errW_none, errW_some] <;> rfl), by first | exact Kd.R_nil _ _ _ _ _ | exact Kd.N_nil _ _ _ _ _ | exact Kd.V_nil _ _ _ _ _ | exact Kd.Q_nil _ _ _ _ _ | exact Kd.S_nil _ _ _ _ _, by exact zbo HB GE408⟩
            ·replace c37 := Bool.eq_false_iff.mpr c37
             subst c37
             have H1 : ((raster_Check.f kj22 ((rd_T24 l2 x45_2).f0) ((rd_T24 l2 x45_2).f1) ((rd_T24 l2 x45_2).f2)).bind fun t417 => (if t417 = 0 then (raster_Join.l0 kj22 a0 a1 l2 (l2.length : Int) (wrap64 (x45_2 + 1)) l2 (wrap64 (Int.tdiv (wrap64 ((wrap64 (a0 + 16)) - 1)) 16))) else (some (0, 0, ([] : List (S26)), t417)))) = some (r1, r2, r3, r4) := by rw [if_neg (show ¬ (false = true) by decide)] at H; exact H
             clear H
             have H := H1
             clear H1
             replace H := Option.bind_eq_some_iff.mp H
             obtain ⟨t417, A420, H⟩ := H
             replace H : (if t417 = 0 then (raster_Join.l0 kj22 a0 a1 l2 (l2.length : Int) (wrap64 (x45_2 + 1)) l2 (wrap64 (Int.tdiv (wrap64 ((wrap64 (a0 + 16)) - 1)) 16))) else (some (0, 0, ([] : List (S26)), t417))) = some (r1, r2, r3, r4) := H
             have A42 := Aside0.mk A420
             clear A420
             by_cases c43 : t417 = 0
             ·rw [if_pos c43] at H
              have c43b0 : (t417 == 0) = true := beq_iff_eq.mpr c43
              have c43b1 : (t417 != 0) = false := bne_eq_false_iff_eq.mpr c43
              clear c43
              have H' := Aside0.mk H
              clear H
              obtain ⟨hcz44_0, hcz44_1, hcz44_2, hfz44_0, hfz44_1, hfz44_2⟩ := zq3 BK416
              go_wp2_with (first | (go_at_call 18; (with_reducible refine (raster_Check.calls kj22 ((rd_T24 l2 x45_2).f0) ((rd_T24 l2 x45_2).f1) _ _ ((rd_T24 l2 x45_2).f2) t417 _ ?side1 ?side2 A42.out).mono ?_); (case side1 => repeat (first | exact (Kd.C_below HR415_2.out HB.out) | (with_reducible refine Kd.C_alloc ?_ _) | (with_reducible refine Kd.C_drewN ?_ _) | (with_reducible refine Kd.C_drew ?_))); (case side2 => exact HC415_2.out); rintro e w45 ⟨rfl, hb⟩; replace BK407 := zk BK407 hb; replace BK408 := zk BK408 hb; replace BK409 := zk BK409 hb; replace BK416 := zk BK416 hb; replace HB := zb HB hb; (try clear hb); (try clear hb2); (try clear hk); (try clear hi)))
              repeat (go_quiet (first | (go_at_call 18; (with_reducible refine (raster_Check.calls kj22 ((rd_T24 l2 x45_2).f0) ((rd_T24 l2 x45_2).f1) _ _ ((rd_T24 l2 x45_2).f2) t417 _ ?side1 ?side2 A42.out).mono ?_); (case side1 => repeat (first | exact (Kd.C_below HR415_2.out HB.out) | (with_reducible refine Kd.C_alloc ?_ _) | (with_reducible refine Kd.C_drewN ?_ _) | (with_reducible refine Kd.C_drew ?_))); (case side2 => exact HC415_2.out); rintro e w45 ⟨rfl, hb⟩; replace BK407 := zk BK407 hb; replace BK408 := zk BK408 hb; replace BK409 := zk BK409 hb; replace BK416 := zk BK416 hb; replace HB := zb HB hb; (try clear hb); (try clear hb2); (try clear hk); (try clear hi))); try go_wp2_with (first | (go_at_call 18; (with_reducible refine (raster_Check.calls kj22 ((rd_T24 l2 x45_2).f0) ((rd_T24 l2 x45_2).f1) _ _ ((rd_T24 l2 x45_2).f2) t417 _ ?side1 ?side2 A42.out).mono ?_); (case side1 => repeat (first | exact (Kd.C_below HR415_2.out HB.out) | (with_reducible refine Kd.C_alloc ?_ _) | (with_reducible refine Kd.C_drewN ?_ _) | (with_reducible refine Kd.C_drew ?_))); (case side2 => exact HC415_2.out); rintro e w45 ⟨rfl, hb⟩; replace BK407 := zk BK407 hb; replace BK408 := zk BK408 hb; replace BK409 := zk BK409 hb; replace BK416 := zk BK416 hb; replace HB := zb HB hb; (try clear hb); (try clear hb2); (try clear hk); (try clear hi))))
              go_roundg kj22
              case measure => have := HJ3.out; have := HK2.out; have := HJ22.out; omega
              case rel => exact ⟨(wrap64 (x45_2 + 1)), (x409000_2), (x409001_2), (by first | rfl | (simp; done) | (simp [*]; done)), H', ⟨by have := HJ3.out; have := HK2.out; have := HJ22.out; omega⟩, ⟨by exact zk0 BK407⟩, ⟨by exact zk0 BK408⟩, ⟨by exact zk0 BK409⟩, ⟨by exact zb0 HB⟩⟩
             ·rw [if_neg c43] at H
              have c43b0 : (t417 == 0) = false := beq_eq_false_iff_ne.mpr c43
              have c43b1 : (t417 != 0) = true := bne_iff_ne.mpr c43
              simp only [Option.some.injEq, Prod.mk.injEq] at H
              obtain ⟨rfl, rfl, rfl, rfl⟩ := H
              have hnb46 := NB416_407.out
              have hnc46 := NB407_416.out
              have hnb47 := NB416_408.out
              have hnc47 := NB408_416.out
              have hnb48 := NB416_409.out
              have hnc48 := NB409_416.out
              obtain ⟨hcz49_0, hcz49_1, hcz49_2, hfz49_0, hfz49_1, hfz49_2⟩ := zq3 BK416
              go_wp2_with (first | (go_at_call 18; (with_reducible refine (raster_Check.calls kj22 ((rd_T24 l2 x45_2).f0) ((rd_T24 l2 x45_2).f1) _ _ ((rd_T24 l2 x45_2).f2) t417 _ ?side1 ?side2 A42.out).mono ?_); (case side1 => repeat (first | exact (Kd.C_below HR415_2.out HB.out) | (with_reducible refine Kd.C_alloc ?_ _) | (with_reducible refine Kd.C_drewN ?_ _) | (with_reducible refine Kd.C_drew ?_))); (case side2 => exact HC415_2.out); rintro e w50 ⟨rfl, hb⟩; replace BK407 := zk BK407 hb; replace BK408 := zk BK408 hb; replace BK409 := zk BK409 hb; replace BK416 := zk BK416 hb; replace HB := zb HB hb; (try clear hb); (try clear hb2); (try clear hk); (try clear hi); have hnb51 := NB408_407.out; have hnc51 := NB407_408.out; have hnb52 := NB408_409.out; have hnc52 := NB409_408.out; obtain ⟨hcz53_0, hcz53_1, hcz53_2, hfz53_0, hfz53_1, hfz53_2⟩ := zq3 BK408))
              repeat (go_quiet (first | (go_at_call 18; (with_reducible refine (raster_Check.calls kj22 ((rd_T24 l2 x45_2).f0) ((rd_T24 l2 x45_2).f1) _ _ ((rd_T24 l2 x45_2).f2) t417 _ ?side1 ?side2 A42.out).mono ?_); (case side1 => repeat (first | exact (Kd.C_below HR415_2.out HB.out) | (with_reducible refine Kd.C_alloc ?_ _) | (with_reducible refine Kd.C_drewN ?_ _) | (with_reducible refine Kd.C_drew ?_))); (case side2 => exact HC415_2.out); rintro e w50 ⟨rfl, hb⟩; replace BK407 := zk BK407 hb; replace BK408 := zk BK408 hb; replace BK409 := zk BK409 hb; replace BK416 := zk BK416 hb; replace HB := zb HB hb; (try clear hb); (try clear hb2); (try clear hk); (try clear hi); have hnb51 := NB408_407.out; have hnc51 := NB407_408.out; have hnb52 := NB408_409.out; have hnc52 := NB409_408.out; obtain ⟨hcz53_0, hcz53_1, hcz53_2, hfz53_0, hfz53_1, hfz53_2⟩ := zq3 BK408)); try go_wp2_with (first | (go_at_call 18; (with_reducible refine (raster_Check.calls kj22 ((rd_T24 l2 x45_2).f0) ((rd_T24 l2 x45_2).f1) _ _ ((rd_T24 l2 x45_2).f2) t417 _ ?side1 ?side2 A42.out).mono ?_); (case side1 => repeat (first | exact (Kd.C_below HR415_2.out HB.out) | (with_reducible refine Kd.C_alloc ?_ _) | (with_reducible refine Kd.C_drewN ?_ _) | (with_reducible refine Kd.C_drew ?_))); (case side2 => exact HC415_2.out); rintro e w50 ⟨rfl, hb⟩; replace BK407 := zk BK407 hb; replace BK408 := zk BK408 hb; replace BK409 := zk BK409 hb; replace BK416 := zk BK416 hb; replace HB := zb HB hb; (try clear hb); (try clear hb2); (try clear hk); (try clear hi); have hnb51 := NB408_407.out; have hnc51 := NB407_408.out; have hnb52 := NB408_409.out; have hnc52 := NB409_408.out; obtain ⟨hcz53_0, hcz53_1, hcz53_2, hfz53_0, hfz53_1, hfz53_2⟩ := zq3 BK408)))
              refine bodyPost_ret (results_ct rfl _ _ gb408 24 #[.int .i64 0, .int .i64 0, .slice none 0 0] (0, 0) _ rfl (by exact zp BK408 rfl) Try.underlying24 rfl (by kernel_rfl)) rfl ?_
              exact ⟨_, by first | rfl | (simp [errW_none, errW_some] <;> rfl) | (simp [*, errW_none, errW_some] <;> rfl), by first | exact Kd.R_nil _ _ _ _ _ | exact Kd.N_nil _ _ _ _ _ | exact Kd.V_nil _ _ _ _ _ | exact Kd.Q_nil _ _ _ _ _ | exact Kd.S_nil _ _ _ _ _, by exact zbo HB GE408⟩
         ·rw [if_neg c22] at H
          exact absurd H (by simp)
        ·rw [if_neg c21] at H
         exact absurd H (by simp)
       ·rw [if_neg c20] at H
        have c20b0 : decide (x45_2 < (l2.length : Int)) = false := decide_eq_false c20
        clear c20
        replace H := Option.bind_eq_some_iff.mp H
        obtain ⟨⟨t410, t411, t412⟩, A540, H⟩ := H
        replace H : (some (t410, t411, t412, 0)) = some (r1, r2, r3, r4) := H
        have A54 := Aside0.mk A540
        clear A540
        simp only [Option.some.injEq, Prod.mk.injEq] at H
        obtain ⟨rfl, rfl, rfl, rfl⟩ := H
        go_wp2_with (first | (go_at_call 40; (with_reducible refine (raster_fill__raster_Join_1.calls k2 a0 a1 gb407 gb409 A2 c2 l2 (wrap64 (Int.tdiv (wrap64 ((wrap64 (a0 + 16)) - 1)) 16)) t410 t411 t412 _ ?side1 ?side2 ?side3 ?side4 A54.out).mono ?_); (case side1 => exact zk0 BK407); (case side2 => exact zk0 BK409); (case side3 => repeat (first | exact (Kd.C_below HR2.out HB.out) | (with_reducible refine Kd.C_alloc ?_ _) | (with_reducible refine Kd.C_drewN ?_ _) | (with_reducible refine Kd.C_drew ?_))); (case side4 => exact HC2.out); rintro e w55 ⟨v413, rfl, ho0, hb⟩; have HO414 := zl HB ho0; replace BK407 := zk BK407 hb; replace BK408 := zk BK408 hb; replace BK409 := zk BK409 hb; replace HB := zb HB hb; (try clear hb); (try clear hb2); (try clear hk); (try clear hi); (try clear ho0); have hnb56 := NB408_407.out; have hnc56 := NB407_408.out; have hnb57 := NB408_409.out; have hnc57 := NB409_408.out; obtain ⟨hcz58_0, hcz58_1, hcz58_2, hfz58_0, hfz58_1, hfz58_2⟩ := zq3 BK408; obtain ⟨Ao59, co59, eo59⟩ := Kd.R_slice HO414.out; subst eo59))
        repeat (go_quiet (first | (go_at_call 40; (with_reducible refine (raster_fill__raster_Join_1.calls k2 a0 a1 gb407 gb409 A2 c2 l2 (wrap64 (Int.tdiv (wrap64 ((wrap64 (a0 + 16)) - 1)) 16)) t410 t411 t412 _ ?side1 ?side2 ?side3 ?side4 A54.out).mono ?_); (case side1 => exact zk0 BK407); (case side2 => exact zk0 BK409); (case side3 => repeat (first | exact (Kd.C_below HR2.out HB.out) | (with_reducible refine Kd.C_alloc ?_ _) | (with_reducible refine Kd.C_drewN ?_ _) | (with_reducible refine Kd.C_drew ?_))); (case side4 => exact HC2.out); rintro e w55 ⟨v413, rfl, ho0, hb⟩; have HO414 := zl HB ho0; replace BK407 := zk BK407 hb; replace BK408 := zk BK408 hb; replace BK409 := zk BK409 hb; replace HB := zb HB hb; (try clear hb); (try clear hb2); (try clear hk); (try clear hi); (try clear ho0); have hnb56 := NB408_407.out; have hnc56 := NB407_408.out; have hnb57 := NB408_409.out; have hnc57 := NB409_408.out; obtain ⟨hcz58_0, hcz58_1, hcz58_2, hfz58_0, hfz58_1, hfz58_2⟩ := zq3 BK408; obtain ⟨Ao59, co59, eo59⟩ := Kd.R_slice HO414.out; subst eo59)); try go_wp2_with (first | (go_at_call 40; (with_reducible refine (raster_fill__raster_Join_1.calls k2 a0 a1 gb407 gb409 A2 c2 l2 (wrap64 (Int.tdiv (wrap64 ((wrap64 (a0 + 16)) - 1)) 16)) t410 t411 t412 _ ?side1 ?side2 ?side3 ?side4 A54.out).mono ?_); (case side1 => exact zk0 BK407); (case side2 => exact zk0 BK409); (case side3 => repeat (first | exact (Kd.C_below HR2.out HB.out) | (with_reducible refine Kd.C_alloc ?_ _) | (with_reducible refine Kd.C_drewN ?_ _) | (with_reducible refine Kd.C_drew ?_))); (case side4 => exact HC2.out); rintro e w55 ⟨v413, rfl, ho0, hb⟩; have HO414 := zl HB ho0; replace BK407 := zk BK407 hb; replace BK408 := zk BK408 hb; replace BK409 := zk BK409 hb; replace HB := zb HB hb; (try clear hb); (try clear hb2); (try clear hk); (try clear hi); (try clear ho0); have hnb56 := NB408_407.out; have hnc56 := NB407_408.out; have hnb57 := NB408_409.out; have hnc57 := NB409_408.out; obtain ⟨hcz58_0, hcz58_1, hcz58_2, hfz58_0, hfz58_1, hfz58_2⟩ := zq3 BK408; obtain ⟨Ao59, co59, eo59⟩ := Kd.R_slice HO414.out; subst eo59)))
        refine bodyPost_ret (results_ct rfl _ _ gb408 24 #[.int .i64 t410, .int .i64 t411, .slice Ao59 t412.length co59] (0, 0) _ rfl (by exact zp BK408 rfl) Try.underlying24 rfl (by kernel_rfl)) rfl ?_
        exact ⟨_, by first | rfl | (simp [errW_none, errW_some] <;> rfl) | (simp [*, errW_none, errW_some] <;> rfl), by exact zro HO414 BK408 (by decide), by exact zbo HB GE408⟩
    ·rw [if_neg c13] at H
     have c13b0 : ((l2.length : Int) == (wrap64 ((wrap64 (Int.tdiv (wrap64 ((wrap64 (a0 + 16)) - 1)) 16)) * (wrap64 (Int.tdiv (wrap64 ((wrap64 (a1 + 16)) - 1)) 16))))) = false := beq_eq_false_iff_ne.mpr c13
     have c13b1 : ((l2.length : Int) != (wrap64 ((wrap64 (Int.tdiv (wrap64 ((wrap64 (a0 + 16)) - 1)) 16)) * (wrap64 (Int.tdiv (wrap64 ((wrap64 (a1 + 16)) - 1)) 16))))) = true := bne_iff_ne.mpr c13
     simp only [Option.some.injEq, Prod.mk.injEq] at H
     obtain ⟨rfl, rfl, rfl, rfl⟩ := H
     go_wp2_with (first | ((with_reducible refine gate_dst (N := 8) rfl ?_); (try (refine gate_guard (by rfl) ?_; dsimp only)); refine box_event ?hg (N := 8) ?hd (cs := #[.int .i64 0]) (t := 3) ?hr ?_; (case hd => rfl); (case hg => rfl); (case hr => first | (go_simp; done) | (go_simp; rfl)); intro gb409 hg w60 hbox hb; have GW409 := zg HB hg; have GE409 := zg HB hg; have NB407_409 := zn BK407 hg; have NB409_407 := zn' BK407 hg; have NB408_409 := zn BK408 hg; have NB409_408 := zn' BK408 hg; have n0_ := Aside0.mk (hbox); replace BK407 := zk BK407 hb; replace BK408 := zk BK408 hb; replace HB := zb HB hb; have BK409 := n0_; clear n0_; clear hb hbox hg; have hnb61 := NB409_407.out; have hnc61 := NB407_409.out; have hnb62 := NB409_408.out; have hnc62 := NB408_409.out; obtain ⟨hcz63_0, hfz63_0⟩ := zq1 BK409; have hnb64 := NB407_408.out; have hnc64 := NB408_407.out; obtain ⟨hcz65_0, hfz65_0⟩ := zq1 BK407; obtain ⟨hcz66_0, hcz66_1, hcz66_2, hfz66_0, hfz66_1, hfz66_2⟩ := zq3 BK408))
     repeat (go_quiet (first | ((with_reducible refine gate_dst (N := 8) rfl ?_); (try (refine gate_guard (by rfl) ?_; dsimp only)); refine box_event ?hg (N := 8) ?hd (cs := #[.int .i64 0]) (t := 3) ?hr ?_; (case hd => rfl); (case hg => rfl); (case hr => first | (go_simp; done) | (go_simp; rfl)); intro gb409 hg w60 hbox hb; have GW409 := zg HB hg; have GE409 := zg HB hg; have NB407_409 := zn BK407 hg; have NB409_407 := zn' BK407 hg; have NB408_409 := zn BK408 hg; have NB409_408 := zn' BK408 hg; have n0_ := Aside0.mk (hbox); replace BK407 := zk BK407 hb; replace BK408 := zk BK408 hb; replace HB := zb HB hb; have BK409 := n0_; clear n0_; clear hb hbox hg; have hnb61 := NB409_407.out; have hnc61 := NB407_409.out; have hnb62 := NB409_408.out; have hnc62 := NB408_409.out; obtain ⟨hcz63_0, hfz63_0⟩ := zq1 BK409; have hnb64 := NB407_408.out; have hnc64 := NB408_407.out; obtain ⟨hcz65_0, hfz65_0⟩ := zq1 BK407; obtain ⟨hcz66_0, hcz66_1, hcz66_2, hfz66_0, hfz66_1, hfz66_2⟩ := zq3 BK408)); try go_wp2_with (first | ((with_reducible refine gate_dst (N := 8) rfl ?_); (try (refine gate_guard (by rfl) ?_; dsimp only)); refine box_event ?hg (N := 8) ?hd (cs := #[.int .i64 0]) (t := 3) ?hr ?_; (case hd => rfl); (case hg => rfl); (case hr => first | (go_simp; done) | (go_simp; rfl)); intro gb409 hg w60 hbox hb; have GW409 := zg HB hg; have GE409 := zg HB hg; have NB407_409 := zn BK407 hg; have NB409_407 := zn' BK407 hg; have NB408_409 := zn BK408 hg; have NB409_408 := zn' BK408 hg; have n0_ := Aside0.mk (hbox); replace BK407 := zk BK407 hb; replace BK408 := zk BK408 hb; replace HB := zb HB hb; have BK409 := n0_; clear n0_; clear hb hbox hg; have hnb61 := NB409_407.out; have hnc61 := NB407_409.out; have hnb62 := NB409_408.out; have hnc62 := NB408_409.out; obtain ⟨hcz63_0, hfz63_0⟩ := zq1 BK409; have hnb64 := NB407_408.out; have hnc64 := NB408_407.out; obtain ⟨hcz65_0, hfz65_0⟩ := zq1 BK407; obtain ⟨hcz66_0, hcz66_1, hcz66_2, hfz66_0, hfz66_1, hfz66_2⟩ := zq3 BK408)))
     refine bodyPost_ret (results_ct rfl _ _ gb408 24 #[.int .i64 0, .int .i64 0, .slice none 0 0] (0, 0) _ rfl (by (with_reducible repeat (first | refine blk_drewN ?_ _ | refine blk_drew ?_ | refine blk_alloc ?_ _)); refine blk_put (cs := #[.int .i64 0, .int .i64 0, .slice none 0 0]) ?_ 2 _ rfl; (with_reducible repeat (first | refine blk_drewN ?_ _ | refine blk_drew ?_ | refine blk_alloc ?_ _)); refine blk_put (cs := #[.int .i64 0, .int .i64 0, .slice none 0 0]) ?_ 1 _ rfl; (with_reducible repeat (first | refine blk_drewN ?_ _ | refine blk_drew ?_ | refine blk_alloc ?_ _)); refine blk_put (cs := #[.int .i64 0, .int .i64 0, .slice none 0 0]) ?_ 0 _ rfl; (with_reducible repeat (first | refine blk_drewN ?_ _ | refine blk_drew ?_ | refine blk_alloc ?_ _)); refine blk_far ?_ NB408_409.out _; (with_reducible repeat (first | refine blk_drewN ?_ _ | refine blk_drew ?_ | refine blk_alloc ?_ _)); exact BK408.out) Try.underlying24 rfl (by kernel_rfl)) rfl ?_
     exact ⟨_, by first | rfl | (simp [errW_none, errW_some] <;> rfl) | (simp [*, errW_none, errW_some] <;> rfl), by first | exact Kd.R_nil _ _ _ _ _ | exact Kd.N_nil _ _ _ _ _ | exact Kd.V_nil _ _ _ _ _ | exact Kd.Q_nil _ _ _ _ _ | exact Kd.S_nil _ _ _ _ _, by repeat (first | (with_reducible first | exact HB.out | apply below_alloc | apply pw_below_drewN | apply below_drew1 | refine below_set ?_ GE408.out | refine below_set ?_ GE409.out) | exact HB.out)⟩

end Go.Proofs.Ytjepbimgddgijaa.G
