-- Written by a program of this session (wip/gx.py over the kit's print); Lean checks it.
import Derived.Test.YtmmncannibnklaaG0
import Derived.Test.YtmmncannibnklaaG22
namespace Go.Proofs.Ytmmncannibnklaa.G
open Go.RowKit Go.Proofs.YtmmncannibnklaaW.PrintWords Go.Proofs.YtmmncannibnklaaW.PrintLast Go.Proofs.YtmmncannibnklaaW.PrintMore
attribute [local go_sem] max2_int min2_int max_two min_two max_three min_three max_four min_four   -- for this text's walks alone
set_option linter.unusedVariables false
set_option linter.unusedSimpArgs false

/-! ### raster_fill__raster_Flip_2: function 41 -/
mutual
def raster_fill__raster_Flip_2.l0 : Nat → Int → Int → Int → Int → Int → List (S37) → Int → Int → List (S37) → Option (Int × Int × (List (S37)))
 | 0, _, _, _, _, _, _, _, _, _ => none
 | k + 1, x0, x17, x18, x748000, x748001, x748002, x753000, x753001, x753002 => if x18 < x17 then (raster_fill__raster_Flip_2.l1 k x0 x18 x17 x18 x0 0 x748000 x748001 x748002 x753000 x753001 x753002) else (some (x753000, x753001, x753002))
def raster_fill__raster_Flip_2.l1 : Nat → Int → Int → Int → Int → Int → Int → Int → Int → List (S37) → Int → Int → List (S37) → Option (Int × Int × (List (S37)))
 | 0, _, _, _, _, _, _, _, _, _, _, _, _ => none
 | k + 1, x0, x8, x17, x18, x21, x22, x748000, x748001, x748002, x753000, x753001, x753002 => if x22 < x21 then ((raster_Flip_2.f x22 x8 x748000 x748001 x748002).bind fun bt753 => (if x753002.length < 4398046511104 then (raster_fill__raster_Flip_2.l1 k x0 x8 x17 x18 x21 (wrap64 (x22 + 1)) x748000 x748001 x748002 x753000 x753001 (x753002 ++ [(⟨bt753.1, bt753.2.1, bt753.2.2.1, bt753.2.2.2⟩ : S37)])) else (none))) else (raster_fill__raster_Flip_2.l0 k x0 x17 (wrap64 (x18 + 1)) x748000 x748001 x748002 x753000 x753001 x753002)
end
def raster_fill__raster_Flip_2.f (k : Nat) (a0 : Int) (a1 : Int) (a2_0 : Int) (a2_1 : Int) (l2_2 : List (S37)) : Option (Int × Int × (List (S37))) := if 0 ≤ (wrap64 (a0 * a1)) then (if (wrap64 (a0 * a1) : Int).toNat ≤ 8796093022208 then (raster_fill__raster_Flip_2.l0 k a0 a1 0 a2_0 a2_1 l2_2 a0 a1 (([] : List (S37)))) else (none)) else (none)
theorem raster_fill__raster_Flip_2.mono_l : ∀ k, (∀ y0 y1 y2 y3 y4 y5 y6 y7 y8, LeO (raster_fill__raster_Flip_2.l0 k y0 y1 y2 y3 y4 y5 y6 y7 y8) (raster_fill__raster_Flip_2.l0 (k + 1) y0 y1 y2 y3 y4 y5 y6 y7 y8)) ∧ (∀ y0 y1 y2 y3 y4 y5 y6 y7 y8 y9 y10 y11, LeO (raster_fill__raster_Flip_2.l1 k y0 y1 y2 y3 y4 y5 y6 y7 y8 y9 y10 y11) (raster_fill__raster_Flip_2.l1 (k + 1) y0 y1 y2 y3 y4 y5 y6 y7 y8 y9 y10 y11))
 | 0 => ⟨fun _ _ _ _ _ _ _ _ _ r h => by simp [raster_fill__raster_Flip_2.l0] at h, fun _ _ _ _ _ _ _ _ _ _ _ _ r h => by simp [raster_fill__raster_Flip_2.l1] at h⟩
 | k + 1 => by
  obtain ⟨ih0, ih1⟩ := raster_fill__raster_Flip_2.mono_l k
  refine ⟨?_, ?_⟩
  ·intro y0 y1 y2 y3 y4 y5 y6 y7 y8
   unfold raster_fill__raster_Flip_2.l0
   repeat' first
   | (with_reducible exact ih0 _ _ _ _ _ _ _ _ _)
   | (with_reducible exact ih1 _ _ _ _ _ _ _ _ _ _ _ _)
   | (with_reducible exact LeO.refl _)
   | (with_reducible exact LeO.none _)
   | (with_reducible refine LeO.ite ?_ ?_)
   | (with_reducible refine LeO.bind ?_ (fun _ => ?_))
   | exact ih0 _ _ _ _ _ _ _ _ _
   | exact ih1 _ _ _ _ _ _ _ _ _ _ _ _
   | exact LeO.none _
   | refine LeO.ite ?_ ?_
   | refine LeO.bind ?_ (fun _ => ?_)
  ·intro y0 y1 y2 y3 y4 y5 y6 y7 y8 y9 y10 y11
   unfold raster_fill__raster_Flip_2.l1
   repeat' first
   | (with_reducible exact ih0 _ _ _ _ _ _ _ _ _)
   | (with_reducible exact ih1 _ _ _ _ _ _ _ _ _ _ _ _)
   | (with_reducible exact LeO.refl _)
   | (with_reducible exact LeO.none _)
   | (with_reducible refine LeO.ite ?_ ?_)
   | (with_reducible refine LeO.bind ?_ (fun _ => ?_))
   | exact ih0 _ _ _ _ _ _ _ _ _
   | exact ih1 _ _ _ _ _ _ _ _ _ _ _ _
   | exact LeO.none _
   | refine LeO.ite ?_ ?_
   | refine LeO.bind ?_ (fun _ => ?_)
theorem raster_fill__raster_Flip_2.mono : ∀ a0 a1 a2 a3 a4 k, LeO (raster_fill__raster_Flip_2.f k a0 a1 a2 a3 a4) (raster_fill__raster_Flip_2.f (k + 1) a0 a1 a2 a3 a4) := by
 intro a0 a1 a2 a3 a4 k
 obtain ⟨ih0, ih1⟩ := raster_fill__raster_Flip_2.mono_l k
 unfold raster_fill__raster_Flip_2.f
 repeat' first
   | (with_reducible exact ih0 _ _ _ _ _ _ _ _ _)
   | (with_reducible exact ih1 _ _ _ _ _ _ _ _ _ _ _ _)
   | (with_reducible exact LeO.refl _)
   | (with_reducible exact LeO.none _)
   | (with_reducible refine LeO.ite ?_ ?_)
   | (with_reducible refine LeO.bind ?_ (fun _ => ?_))
   | exact ih0 _ _ _ _ _ _ _ _ _
   | exact ih1 _ _ _ _ _ _ _ _ _ _ _ _
   | exact LeO.none _
   | refine LeO.ite ?_ ?_
   | refine LeO.bind ?_ (fun _ => ?_)
def raster_fill__raster_Flip_2.T8 : Bool × List (List Nat × List Nat) := (true, [([], []), ([0], [0]), ([], []), ([], []), ([], []), ([2, 3, 4], [2, 3, 4]), ([5], [5]), ([1, 6, 5], [1, 6]), ([0, 1, 2, 3, 4, 5, 6, 7], []), ([8, 7, 7, 0, 1, 2, 3, 4, 5, 6, 7], [7, 8])])
def raster_fill__raster_Flip_2.B8 : List Nat := [0, 1, 0, 0, 0, 28, 60, 127, 255, 511]
theorem raster_fill__raster_Flip_2.tab8 : rtab .any (opsOf Try.f41 8) = raster_fill__raster_Flip_2.T8 := by kernel_rfl
theorem raster_fill__raster_Flip_2.bits8 : waitsOk raster_fill__raster_Flip_2.T8.2 raster_fill__raster_Flip_2.B8 = true := by kernel_rfl
set_option maxHeartbeats 8000000 in
set_option maxRecDepth 100000 in
theorem raster_fill__raster_Flip_2.calls (k : Nat) (a0 : Int) (a1 : Int) (gc2_0 : Nat) (a2_0 : Int) (a2_1 : Int) (A2_2 : Option Addr) (c2_2 : Nat) (l2_2 : List (S37)) (r1 : Int) (r2 : Int) (r3 : List (S37)) (w : World) (hp2_0 : w.heap[gc2_0]? = some (.cells #[.int .i64 a2_0, .int .i64 a2_1, .slice A2_2 l2_2.length c2_2] 24 (0, 0))) (hr2_2 : Kd.C k37 w A2_2 l2_2.length l2_2) (hc2_2 : l2_2.length ≤ c2_2) (h : raster_fill__raster_Flip_2.f k a0 a1 a2_0 a2_1 l2_2 = some (r1, r2, r3)) :
  Calls Try.prog 41 #[.int .i64 a0, .int .i64 a1, .func (.func 44) #[] #[.pointer (some ⟨gc2_0, 0, none⟩)]] w fun e w' => ∃ v2_ : Value, e = .returned (.agg #[.int .i64 r1, .int .i64 r2, v2_]) ∧ Kd.R k37 37 w' w.heap.size (fun _ => True) v2_ r3 ∧ Below w.heap.size w w' := by
 have hu24 := Try.underlying24
 have HR2_2 := Aside0.mk hr2_2
 have HC2_2 := Aside0.mk hc2_2
 clear hr2_2 hc2_2
 have BK747 := Aside0.mk hp2_0
 have GL747 := Aside0.mk (show gc2_0 < w.heap.size from blk_lt hp2_0)
 clear hp2_0
 have HB := Aside0.mk (Below.refl w.heap.size w)
 have H : (if 0 ≤ (wrap64 (a0 * a1)) then (if (wrap64 (a0 * a1) : Int).toNat ≤ 8796093022208 then (raster_fill__raster_Flip_2.l0 k a0 a1 0 a2_0 a2_1 l2_2 a0 a1 (([] : List (S37)))) else (none)) else (none)) = some (r1, r2, r3) := h
 clear h
 obtain ⟨ji4, hji4⟩ : ∃ j_ : Int, (wrap64 (a0 * a1)) = j_ := ⟨_, rfl⟩
 replace H : (if 0 ≤ (ji4) then (if (ji4 : Int).toNat ≤ 8796093022208 then (raster_fill__raster_Flip_2.l0 k a0 a1 0 a2_0 a2_1 l2_2 a0 a1 (([] : List (S37)))) else (none)) else (none)) = some (r1, r2, r3) := by first | (rw [hji4] at H; exact H) | (simp only [hji4] at H ⊢; exact H)
 have hji4w : (IntKind.i64.wrap (a0 * a1)) = ji4 := (i64_w _).trans hji4
 by_cases c5 : 0 ≤ (ji4)
 ·rw [if_pos c5] at H
  have c5b0 := eq_true c5
  have c5b1 : decide (0 ≤ (ji4)) = true := decide_eq_true c5
  clear c5
  by_cases c6 : (ji4 : Int).toNat ≤ 8796093022208
  ·rw [if_pos c6] at H
   have c6b0 := eq_true c6
   have c6b1 : decide ((ji4 : Int).toNat ≤ 8796093022208) = true := decide_eq_true c6
   clear c6
   obtain ⟨y749, hy749⟩ : ∃ y_ : List (S37), y_ = (([] : List (S37))) := ⟨_, rfl⟩
   replace H : (raster_fill__raster_Flip_2.l0 k a0 a1 0 a2_0 a2_1 l2_2 a0 a1 y749) = some (r1, r2, r3) := by first | (rw [hy749]; with_reducible exact H) | (have H2_ := (Option.bind_some _ _).symm.trans H; rw [hy749]; with_reducible exact H2_) | (have H2_ := (Option.bind_some _ _).symm.trans H; with_reducible exact H2_) | with_reducible exact H | (rw [hy749]; exact H) | exact H
   have Ny749 := Aside0.mk hy749
   clear hy749
   have H' := Aside0.mk H
   clear H
   go_enter Try.func41, Try.ntmps41
   go_wp2_with (first | ((with_reducible refine gate_dst (N := 6) rfl ?_); refine box_event ?hg (N := 6) ?hd (cs := #[.int .i64 0, .int .i64 0, .slice none 0 0]) (t := 24) ?hr ?_; (case hd => rfl); (case hg => rfl); (case hr => first | (go_simp; done) | (go_simp; rfl)); intro gb748 hg w7 hbox hb; have GW748 := zg HB hg; have GE748 := zg HB hg; have NB747_748 := zn BK747 hg; have NB748_747 := zn' BK747 hg; have n0_ := Aside0.mk (hbox); replace BK747 := zk BK747 hb; replace HB := zb HB hb; have BK748 := n0_; clear n0_; clear hb hbox hg) | ((with_reducible refine gate_dst (N := 15) rfl ?_); refine Kd.R_make0 k37 _ 37 rfl (N := 15) rfl 22 _ _ rfl ji4 rfl rfl Try.underlying22 (.agg #[(.int .i64 0), (.int .i64 0), (.int .i64 0), (.int .i64 0)]) 32 info37 rfl (by decide) (by omega) z37 (ok := fun _ => True) (okp := fun _ => True) (k37_mkM _ _ _ z37 ) (fun _ hk => hk) trivial (of_decide_eq_true (by first | (with_reducible assumption) | assumption)) (Nat.le_trans (Nat.mul_le_mul_right _ (of_decide_eq_true (by first | (with_reducible assumption) | assumption) : ji4.toNat ≤ 8796093022208)) (by omega)) (Below.refl _ _) (Nat.le_refl _) ?_; intro v750 w8 ho9 hb hg_ hnew_; clear hg_ hnew_; (first | rw [← Ny749.out] at ho9 | (simp only [Int.reduceToNat] at ho9; rw [← Ny749.out] at ho9)); have HO751 := zl HB ho9; replace BK747 := zk BK747 hb; replace BK748 := zk BK748 hb; replace HB := zb HB hb; clear hb ho9; obtain ⟨Ao10, co10, eo10⟩ := Kd.R_slice HO751.out; subst eo10) | ((with_reducible refine gate_dst (N := 7) rfl ?_); refine box_event ?hg (N := 7) ?hd (cs := #[.int .i64 0, .int .i64 0, .slice none 0 0]) (t := 24) ?hr ?_; (case hd => rfl); (case hg => rfl); (case hr => first | (go_simp; done) | (go_simp; rfl)); intro gb752 hg w11 hbox hb; have GW752 := zg HB hg; have GE752 := zg HB hg; have NB747_752 := zn BK747 hg; have NB752_747 := zn' BK747 hg; have NB748_752 := zn BK748 hg; have NB752_748 := zn' BK748 hg; have n0_ := Aside0.mk (hbox); replace HO751 := zr HO751 hb; replace BK747 := zk BK747 hb; replace BK748 := zk BK748 hb; replace HB := zb HB hb; have BK752 := n0_; clear n0_; clear hb hbox hg; have hnb12 := NB752_747.out; have hnc12 := NB747_752.out; have hnb13 := NB752_748.out; have hnc13 := NB748_752.out; obtain ⟨hcz14_0, hcz14_1, hcz14_2, hfz14_0, hfz14_1, hfz14_2⟩ := zq3 BK752))
   (try simp only [Act.put, sA, sB, sC])
   go_loopg [18] k (fun kq v18 w' => ∃ (x18_1 : Int) (x753002_1 : List (S37)) (u753002 : Value), v18 = .int .i64 x18_1 ∧ Aside0 (raster_fill__raster_Flip_2.l0 kq a0 a1 x18_1 a2_0 a2_1 l2_2 a0 a1 x753002_1 = some (r1, r2, r3)) ∧ Aside0 (kq ≤ k) ∧ Aside0 (Kd.R k37 37 w' w.heap.size (fun _ => True) u753002 x753002_1) ∧ Aside0 (w'.heap[gc2_0]? = some (.cells #[.int .i64 a2_0, .int .i64 a2_1, (.slice A2_2 l2_2.length c2_2)] 24 (0, 0))) ∧ Aside0 (w'.heap[gb748]? = some (.cells #[.int .i64 0, .int .i64 0, (.slice none 0 0)] 24 (0, 0))) ∧ Aside0 (w'.heap[gb752]? = some (.cells #[.int .i64 a0, .int .i64 a1, u753002] 24 (0, 0))) ∧ Aside0 (Below w.heap.size w w'))
   case atStart => exact ⟨(0), (y749), (.slice Ao10 y749.length co10), (by first | rfl | (simp; done) | (simp [*]; done)), H', ⟨Nat.le_refl _⟩, ⟨by exact zro HO751 BK752 (by decide)⟩, ⟨by exact zf BK747 NB747_752⟩, ⟨by exact zf BK748 NB748_752⟩, ⟨by exact zp BK752 rfl⟩, ⟨by exact zbo HB GE752⟩⟩
   case round =>
    clear H'
    try clear c1
    try clear c2
    try clear p2
    try clear q3
    try clear c4
    try clear c5
    try clear c5b0
    try clear c5b1
    try clear c6
    try clear c6b0
    try clear c6b1
    try clear p6
    try clear c12
    try clear c13
    try clear hcz14_0
    try clear hcz14_1
    try clear hcz14_2
    try clear hfz14_0
    try clear hfz14_1
    try clear hfz14_2
    obtain ⟨x18_1, x753002_1, u753002, rfl, HA, HK1, HO_753002, BK747, BK748, BK752, HB⟩ := hrel
    cases gk with
    | zero => exact absurd HA.out (by simp [raster_fill__raster_Flip_2.l0])
    | succ k1 =>
     have H := HA.out
     clear HA
     simp only [raster_fill__raster_Flip_2.l0] at H
     by_cases c15 : x18_1 < a1
     ·rw [if_pos c15] at H
      have c15b0 : decide (x18_1 < a1) = true := decide_eq_true c15
      clear c15
      have H' := Aside0.mk H
      clear H
      go_wp2
      go_loopg [22] k1 (fun kq v22 w' => ∃ (x22_2 : Int) (x753002_2 : List (S37)) (u753002 : Value), v22 = .int .i64 x22_2 ∧ Aside0 (raster_fill__raster_Flip_2.l1 kq a0 x18_1 a1 x18_1 a0 x22_2 a2_0 a2_1 l2_2 a0 a1 x753002_2 = some (r1, r2, r3)) ∧ Aside0 (kq ≤ k1) ∧ Aside0 (Kd.R k37 37 w' w.heap.size (fun _ => True) u753002 x753002_2) ∧ Aside0 (w'.heap[gc2_0]? = some (.cells #[.int .i64 a2_0, .int .i64 a2_1, (.slice A2_2 l2_2.length c2_2)] 24 (0, 0))) ∧ Aside0 (w'.heap[gb748]? = some (.cells #[.int .i64 0, .int .i64 0, (.slice none 0 0)] 24 (0, 0))) ∧ Aside0 (w'.heap[gb752]? = some (.cells #[.int .i64 a0, .int .i64 a1, u753002] 24 (0, 0))) ∧ Aside0 (Below w.heap.size w w'))
      case atStart => exact ⟨(0), (x753002_1), (u753002), (by first | rfl | (simp; done) | (simp [*]; done)), H', ⟨Nat.le_refl _⟩, ⟨by exact zr0 HO_753002⟩, ⟨by exact zk0 BK747⟩, ⟨by exact zk0 BK748⟩, ⟨by exact zk0 BK752⟩, ⟨by exact zb0 HB⟩⟩
      case round =>
       clear H'
       try clear c1
       try clear c2
       try clear p2
       try clear q3
       try clear c4
       try clear c5
       try clear c5b0
       try clear c5b1
       try clear c6
       try clear c6b0
       try clear c6b1
       try clear p6
       try clear c12
       try clear c13
       try clear c15
       try clear c15b0
       try clear hcz14_0
       try clear hcz14_1
       try clear hcz14_2
       try clear hfz14_0
       try clear hfz14_1
       try clear hfz14_2
       try clear p2
       try clear p6
       try clear q3
       obtain ⟨x22_2, x753002_2, u753002, rfl, HA, HK2, HO_753002, BK747, BK748, BK752, HB⟩ := hrel
       cases gk with
       | zero => exact absurd HA.out (by simp [raster_fill__raster_Flip_2.l1])
       | succ k2 =>
        have H := HA.out
        clear HA
        simp only [raster_fill__raster_Flip_2.l1] at H
        by_cases c16 : x22_2 < a0
        ·rw [if_pos c16] at H
         have c16b0 : decide (x22_2 < a0) = true := decide_eq_true c16
         clear c16
         replace H := Option.bind_eq_some_iff.mp H
         obtain ⟨⟨t753, t754, t755, t756⟩, A170, H⟩ := H
         replace H : (if x753002_2.length < 4398046511104 then (raster_fill__raster_Flip_2.l1 k2 a0 x18_1 a1 x18_1 a0 (wrap64 (x22_2 + 1)) a2_0 a2_1 l2_2 a0 a1 (x753002_2 ++ [(⟨t753, t754, t755, t756⟩ : S37)])) else (none)) = some (r1, r2, r3) := H
         have A17 := Aside0.mk A170
         clear A170
         by_cases c18 : x753002_2.length < 4398046511104
         ·rw [if_pos c18] at H
          have LMc18 := Aside0.mk c18
          clear c18
          obtain ⟨y757, hy757⟩ : ∃ y_ : List (S37), y_ = (x753002_2 ++ [(⟨t753, t754, t755, t756⟩ : S37)]) := ⟨_, rfl⟩
          replace H : (raster_fill__raster_Flip_2.l1 k2 a0 x18_1 a1 x18_1 a0 (wrap64 (x22_2 + 1)) a2_0 a2_1 l2_2 a0 a1 y757) = some (r1, r2, r3) := by first | (rw [hy757]; with_reducible exact H) | (have H2_ := (Option.bind_some _ _).symm.trans H; rw [hy757]; with_reducible exact H2_) | (have H2_ := (Option.bind_some _ _).symm.trans H; with_reducible exact H2_) | with_reducible exact H | (rw [hy757]; exact H) | exact H
          have Ny757 := Aside0.mk hy757
          clear hy757
          have H' := Aside0.mk H
          clear H
          try go_wp2
          replace HO_753002 := zrd HO_753002
          replace BK747 := zkd BK747
          replace BK748 := zkd BK748
          replace BK752 := zkd BK752
          replace HB := zbd HB
          refine start_ (n := 10) (S := fun w' => w'.cell? ⟨gb752, 0, none⟩ = some (.int .i64 a0) ∧ w'.cell? ⟨gb752, 1, none⟩ = some (.int .i64 a1) ∧ w'.cell? ⟨gb752, 2, none⟩ = some (u753002)) (ds := [9]) (bs 10 0) (by kernel_rfl) rfl rfl ⟨(blk_cell BK752.out 0).trans rfl, (blk_cell BK752.out 1).trans rfl, (blk_cell BK752.out 2).trans rfl⟩ (fun hHeld => ?_); refine with_tabW raster_fill__raster_Flip_2.tab8 raster_fill__raster_Flip_2.bits8 (fun HT_ HW_ => ?_)
          generalize wr.drew = w19 at HO_753002 BK747 BK748 BK752 HB hHeld ⊢
          refine pure_ (i := 0) (N := some 25) (v := ?_) (a' := ?_) (bs 10 1) rfl rfl (any_of HT_.out (by kernel_rfl)) (fun _ _ _ h => h) (Or.inl ⟨by rfl, ?_⟩) ?_ ?_
          rotate_left
          ·intro w'
           go_simp
           with_reducible rfl
          rotate_left
          ·simp only [Act.put, sA, sB, sC, i64_w, i32_w]
           rfl
          refine pure_ (i := 2) (N := some 27) (v := ?_) (a' := ?_) (bs 10 5) rfl rfl (any_of HT_.out (by kernel_rfl)) (fun _ _ _ h => h) (Or.inl ⟨by rfl, ?_⟩) ?_ ?_
          rotate_left
          ·intro w'
           go_simp
           with_reducible rfl
          rotate_left
          ·simp only [Act.put, sA, sB, sC, i64_w, i32_w]
           rfl
          refine pure_ (i := 3) (N := some 28) (v := ?_) (a' := ?_) (bs 10 13) rfl rfl (any_of HT_.out (by kernel_rfl)) (fun _ _ _ h => h) (Or.inl ⟨by rfl, ?_⟩) ?_ ?_
          rotate_left
          ·intro w'
           go_simp
           with_reducible rfl
          rotate_left
          ·simp only [Act.put, sA, sB, sC, i64_w, i32_w]
           rfl
          refine pure_ (i := 4) (N := some 29) (v := ?_) (a' := ?_) (bs 10 29) rfl rfl (any_of HT_.out (by kernel_rfl)) (fun _ _ _ h => h) (Or.inl ⟨by rfl, ?_⟩) ?_ ?_
          rotate_left
          ·intro w'
           go_simp
           with_reducible rfl
          rotate_left
          ·simp only [Act.put, sA, sB, sC, i64_w, i32_w]
           rfl
          refine take_ (i := 1) (N := some 26) (v := ?_) (a' := ?_) (bs 10 31) rfl rfl (take_ofW HT_.out HW_.out (by kernel_rfl)) (fun _ _ _ h => h) (Or.inl ⟨by rfl, ?_⟩) hHeld ?_ ?_
          rotate_left
          ·rintro w' ⟨s0, s1, s2⟩
           go_simp
           with_reducible rfl
          rotate_left
          ·simp only [Act.put, sA, sB, sC, i64_w, i32_w]
           rfl
          refine one_ (i := 5) (N := some 30) (bs 10 63) rfl rfl (one_of HT_.out (by kernel_rfl)) (by decide) (fun K hK => ?_)
          refine goesT_ (t := 27) Try.func44 (by kernel_rfl) rfl #[.pointer (some ⟨gc2_0, 0, none⟩)] #[.int .i64 x22_2, .int .i64 x18_1, .pointer (some ⟨gc2_0, 0, none⟩)] (by rfl) rfl rfl (by first | rfl | (go_simp; done) | (go_simp; rfl)) (by (try simp only [List.map_toArray, List.map_cons, List.map_nil]); first | done | rfl | (go_simp; done) | (go_simp; rfl)) ?_
          with_reducible refine (raster_Flip_2.calls x22_2 x18_1 gc2_0 a2_0 a2_1 A2_2 c2_2 l2_2 t753 t754 t755 t756 _ ?side1 ?side2 ?side3 A17.out).mono ?_
          (case side1 => exact zk0 BK747)
          (case side2 => repeat (first | exact (Kd.C_below HR2_2.out HB.out) | (with_reducible refine Kd.C_alloc ?_ _) | (with_reducible refine Kd.C_drewN ?_ _) | (with_reducible refine Kd.C_drew ?_)))
          (case side3 => exact HC2_2.out)
          rintro e w20 ⟨rfl, hb⟩
          refine ⟨_, rfl, ?_⟩
          replace HO_753002 := zr HO_753002 hb
          replace BK747 := zk BK747 hb
          replace BK748 := zk BK748 hb
          replace BK752 := zk BK752 hb
          replace HB := zb HB hb
          (try clear hb)
          (try clear hb2)
          (try clear hk)
          (try clear hi)
          refine hK.out _ _ ⟨(blk_cell BK752.out 0).trans rfl, (blk_cell BK752.out 1).trans rfl, (blk_cell BK752.out 2).trans rfl⟩ (fun hHeld => ?_)
          clear hK K
          refine norm_ (a' := ?_) ?_ ?_
          rotate_left
          ·show Act.put _ (some 30) _ = _
           simp only [Act.put, sA, sB, sC, i64_w, i32_w]
           rfl
          refine one_ (i := 6) (N := some 31) (bs 10 127) rfl rfl (one_of HT_.out (by kernel_rfl)) (by decide) (fun K hK => ?_)
          refine value_ (w1 := ?_) (v := ?_) (by rfl) rfl ?_ ?_
          rotate_left 2
          ·go_simp
           constructor
           ·rfl
           ·rfl
          refine hK.out _ _ ⟨(blk_cell (blk_alloc BK752.out _) 0).trans rfl, (blk_cell (blk_alloc BK752.out _) 1).trans rfl, (blk_cell (blk_alloc BK752.out _) 2).trans rfl⟩ (fun hHeld => ?_)
          clear hK K
          refine norm_ (a' := ?_) ?_ ?_
          rotate_left
          ·show Act.put _ (some 31) _ = _
           simp only [Act.put, sA, sB, sC, i64_w, i32_w]
           rfl
          refine one_ (i := 7) (N := some 32) (bs 10 255) rfl rfl (one_of HT_.out (by kernel_rfl)) (by decide) (fun K hK => ?_)
          refine Kd.R_append_step k37 (w0 := w) w.heap.size (by rfl) (.tmp 26) (.tmp 31) 22 37 (.agg #[(.int .i64 0), (.int .i64 0), (.int .i64 0), (.int .i64 0)]) 32 rfl Try.underlying22 info37 rfl (by decide) (by omega) u753002 x753002_2 (⟨t753, t754, t755, t756⟩ : S37) [.int .i64 t753, .int .i64 t754, .int .i64 t755, .int .i64 t756] (fun _ => True) (fun _ => False) rfl rfl ?aP (fun _ hk => hk.elim) ?aF ?aO ?aB ?aS ?aL ?_
          (case aP => exact k37_mkM _ _ _ (⟨t753, t754, t755, t756⟩ : S37))
          (case aB => exact (by exact zb0 HB))
          (case aF => exact (fun _ _ => trivial))
          (case aO => exact (by exact zr0 HO_753002))
          (case aS => exact (below_size (by exact zb0 HB)))
          (case aL => have := LMc18.out; omega)
          intro v758 w21 ho hb hg hat
          rw [← Ny757.out] at ho
          have n0_ := Aside0.mk (blk_grown (zk0 BK747) hg (fun e_ => Nat.not_le.2 GL747.out (Kd.R_base HO_753002.out _ e_.symm)))
          have n1_ := Aside0.mk (blk_grown (zk0 BK748) hg (Kd.R_ne HO_753002.out BK748.out (by decide)))
          have n2_ := Aside0.mk (blk_grown (zk0 BK752) hg (Kd.R_ne HO_753002.out BK752.out (by decide)))
          have n3_ := Aside0.mk (hb)
          have n4_ := Aside0.mk (ho)
          clear BK747
          clear BK748
          clear BK752
          clear HB
          clear HO_753002
          have BK747 := n0_
          have BK748 := n1_
          have BK752 := n2_
          have HB := n3_
          have HO759 := n4_
          clear n0_ n1_ n2_ n3_ n4_
          clear ho hb hg hat
          obtain ⟨Ao22, co22, eo22⟩ := Kd.R_slice HO759.out
          (first | subst eo22 | (injection eo22 with f1_ f2_ f3_; have f4_ := f1_.symm; have f5_ := f3_.symm; clear f1_ f2_ f3_; subst f4_; subst f5_))
          refine hK.out _ _ ⟨(blk_cell BK752.out 0).trans rfl, (blk_cell BK752.out 1).trans rfl, (blk_cell BK752.out 2).trans rfl⟩ (fun hHeld => ?_)
          clear hK K
          refine norm_ (a' := ?_) ?_ ?_
          rotate_left
          ·show Act.put _ (some 32) _ = _
           simp only [Act.put, sA, sB, sC, i64_w, i32_w]
           rfl
          refine pure_ (i := 8) (N := some 33) (v := ?_) (a' := ?_) (bs 10 511) rfl rfl (any_of HT_.out (by kernel_rfl)) (fun _ _ _ h => h) (Or.inl ⟨by rfl, ?_⟩) ?_ ?_
          rotate_left
          ·intro w'
           go_simp
           with_reducible rfl
          rotate_left
          ·simp only [Act.put, sA, sB, sC, i64_w, i32_w]
           rfl
          refine last_ (i := 9) (N := none) (bs 10 1023) rfl rfl (one_of HT_.out (by kernel_rfl)) (by decide) (fun K hK => ?_)
          have hs23 : w21.cell? ⟨gb752, 2, none⟩ = some (u753002) := (blk_cell BK752.out 2).trans rfl
          have hfs23 := blk_frozen BK752.out 2
          have hns23_0 := NB747_752.out
          have hns23_1 := NB748_752.out
          have hms23_0 := NB752_747.out
          have hms23_1 := NB752_748.out
          refine skip_ (w1 := ?_) (by rfl) rfl ?_ ?_
          rotate_left
          ·go_simp
           rfl
          refine hK.out _ _ ?_
          clear hK K
          refine done_ (done_of HT_.out (by kernel_rfl)) ?_
          try go_wp2
          first | go_roundg k2 | ((try subst hji4); go_roundg k2)
          case measure => have := HK1.out; have := HK2.out; omega
          case rel => first | (exact ⟨(wrap64 (x22_2 + 1)), (y757), (.slice Ao22 y757.length co22), (by first | rfl | (simp; done) | (simp [*]; done)), H', ⟨by have := HK1.out; have := HK2.out; omega⟩, ⟨by exact zro HO759 BK752 (by decide)⟩, ⟨by exact zf BK747 NB747_752⟩, ⟨by exact zf BK748 NB748_752⟩, ⟨by exact zp BK752 rfl⟩, ⟨by exact zbo HB GE752⟩⟩) | (exact ⟨(wrap64 (x22_2 + 1)), (y757), (.slice Ao22 y757.length co22), (by first | rfl | (simp; done) | (simp [*]; done)), H', ⟨by have := HK1.out; have := HK2.out; omega⟩, ⟨by exact zro HO759 BK752 (by decide)⟩, ⟨by exact zf BK747 NB747_752⟩, ⟨by exact zf BK748 NB748_752⟩, ⟨by exact zp BK752 rfl⟩, ⟨by exact zbo HB GE752⟩⟩)
         ·rw [if_neg c18] at H
          exact absurd H (by simp)
        ·rw [if_neg c16] at H
         have c16b0 : decide (x22_2 < a0) = false := decide_eq_false c16
         clear c16
         have H' := Aside0.mk H
         clear H
         go_wp2
         first | go_roundg k2 | ((try subst hji4); go_roundg k2)
         case measure => have := HK1.out; have := HK2.out; omega
         case rel => first | (exact ⟨(wrap64 (x18_1 + 1)), (x753002_2), (u753002), (by first | rfl | (simp; done) | (simp [*]; done)), H', ⟨by have := HK1.out; have := HK2.out; omega⟩, ⟨by exact zr0 HO_753002⟩, ⟨by exact zk0 BK747⟩, ⟨by exact zk0 BK748⟩, ⟨by exact zk0 BK752⟩, ⟨by exact zb0 HB⟩⟩) | (exact ⟨(wrap64 (x18_1 + 1)), (x753002_2), (u753002), (by first | rfl | (simp; done) | (simp [*]; done)), H', ⟨by have := HK1.out; have := HK2.out; omega⟩, ⟨by exact zr0 HO_753002⟩, ⟨by exact zk0 BK747⟩, ⟨by exact zk0 BK748⟩, ⟨by exact zk0 BK752⟩, ⟨by exact zb0 HB⟩⟩)
     ·rw [if_neg c15] at H
      have c15b0 : decide (x18_1 < a1) = false := decide_eq_false c15
      clear c15
      simp only [Option.some.injEq, Prod.mk.injEq] at H
      obtain ⟨rfl, rfl, rfl⟩ := H
      have hnb24 := NB752_747.out
      have hnc24 := NB747_752.out
      have hnb25 := NB752_748.out
      have hnc25 := NB748_752.out
      obtain ⟨hcz26_0, hcz26_1, hcz26_2, hfz26_0, hfz26_1, hfz26_2⟩ := zq3 BK752
      have hnb27 := NB748_747.out
      have hnc27 := NB747_748.out
      obtain ⟨hcz28_0, hcz28_1, hcz28_2, hfz28_0, hfz28_1, hfz28_2⟩ := zq3 BK748
      obtain ⟨Ao29, co29, eo29⟩ := Kd.R_slice HO_753002.out
      subst eo29
      go_wp2
      refine bodyPost_ret (results_cell_row rfl _ _ gb748 24 #[.int .i64 a0, .int .i64 a1, .slice Ao29 x753002_1.length co29] (0, 0) _ rfl (by exact zp BK748 rfl) Try.underlying24 rfl (by kernel_rfl)) rfl ?_
      exact ⟨_, by first | rfl | (simp [errW_none, errW_some] <;> rfl) | (simp only [← hji4]; first | rfl | (simp [errW_none, errW_some] <;> rfl)) | (simp [*, errW_none, errW_some] <;> rfl), by exact zro HO_753002 BK748 (by decide), by exact zbo HB GE748⟩
  ·rw [if_neg c6] at H
   exact absurd H (by simp)
 ·rw [if_neg c5] at H
  exact absurd H (by simp)

/-! ### raster_fill__raster_Flip_3: function 41 -/
mutual
def raster_fill__raster_Flip_3.l0 : Nat → Int → Int → Int → Int → Int → List (S37) → Int → Int → List (S37) → Option (Int × Int × (List (S37)))
 | 0, _, _, _, _, _, _, _, _, _ => none
 | k + 1, x0, x17, x18, x761000, x761001, x761002, x766000, x766001, x766002 => if x18 < x17 then (raster_fill__raster_Flip_3.l1 k x0 x18 x17 x18 x0 0 x761000 x761001 x761002 x766000 x766001 x766002) else (some (x766000, x766001, x766002))
def raster_fill__raster_Flip_3.l1 : Nat → Int → Int → Int → Int → Int → Int → Int → Int → List (S37) → Int → Int → List (S37) → Option (Int × Int × (List (S37)))
 | 0, _, _, _, _, _, _, _, _, _, _, _, _ => none
 | k + 1, x0, x8, x17, x18, x21, x22, x761000, x761001, x761002, x766000, x766001, x766002 => if x22 < x21 then ((raster_Flip_3.f x22 x8 x761000 x761001 x761002).bind fun bt766 => (if x766002.length < 4398046511104 then (raster_fill__raster_Flip_3.l1 k x0 x8 x17 x18 x21 (wrap64 (x22 + 1)) x761000 x761001 x761002 x766000 x766001 (x766002 ++ [(⟨bt766.1, bt766.2.1, bt766.2.2.1, bt766.2.2.2⟩ : S37)])) else (none))) else (raster_fill__raster_Flip_3.l0 k x0 x17 (wrap64 (x18 + 1)) x761000 x761001 x761002 x766000 x766001 x766002)
end
def raster_fill__raster_Flip_3.f (k : Nat) (a0 : Int) (a1 : Int) (a2_0 : Int) (a2_1 : Int) (l2_2 : List (S37)) : Option (Int × Int × (List (S37))) := if 0 ≤ (wrap64 (a0 * a1)) then (if (wrap64 (a0 * a1) : Int).toNat ≤ 8796093022208 then (raster_fill__raster_Flip_3.l0 k a0 a1 0 a2_0 a2_1 l2_2 a0 a1 (([] : List (S37)))) else (none)) else (none)
theorem raster_fill__raster_Flip_3.mono_l : ∀ k, (∀ y0 y1 y2 y3 y4 y5 y6 y7 y8, LeO (raster_fill__raster_Flip_3.l0 k y0 y1 y2 y3 y4 y5 y6 y7 y8) (raster_fill__raster_Flip_3.l0 (k + 1) y0 y1 y2 y3 y4 y5 y6 y7 y8)) ∧ (∀ y0 y1 y2 y3 y4 y5 y6 y7 y8 y9 y10 y11, LeO (raster_fill__raster_Flip_3.l1 k y0 y1 y2 y3 y4 y5 y6 y7 y8 y9 y10 y11) (raster_fill__raster_Flip_3.l1 (k + 1) y0 y1 y2 y3 y4 y5 y6 y7 y8 y9 y10 y11))
 | 0 => ⟨fun _ _ _ _ _ _ _ _ _ r h => by simp [raster_fill__raster_Flip_3.l0] at h, fun _ _ _ _ _ _ _ _ _ _ _ _ r h => by simp [raster_fill__raster_Flip_3.l1] at h⟩
 | k + 1 => by
  obtain ⟨ih0, ih1⟩ := raster_fill__raster_Flip_3.mono_l k
  refine ⟨?_, ?_⟩
  ·intro y0 y1 y2 y3 y4 y5 y6 y7 y8
   unfold raster_fill__raster_Flip_3.l0
   repeat' first
   | (with_reducible exact ih0 _ _ _ _ _ _ _ _ _)
   | (with_reducible exact ih1 _ _ _ _ _ _ _ _ _ _ _ _)
   | (with_reducible exact LeO.refl _)
   | (with_reducible exact LeO.none _)
   | (with_reducible refine LeO.ite ?_ ?_)
   | (with_reducible refine LeO.bind ?_ (fun _ => ?_))
   | exact ih0 _ _ _ _ _ _ _ _ _
   | exact ih1 _ _ _ _ _ _ _ _ _ _ _ _
   | exact LeO.none _
   | refine LeO.ite ?_ ?_
   | refine LeO.bind ?_ (fun _ => ?_)
  ·intro y0 y1 y2 y3 y4 y5 y6 y7 y8 y9 y10 y11
   unfold raster_fill__raster_Flip_3.l1
   repeat' first
   | (with_reducible exact ih0 _ _ _ _ _ _ _ _ _)
   | (with_reducible exact ih1 _ _ _ _ _ _ _ _ _ _ _ _)
   | (with_reducible exact LeO.refl _)
   | (with_reducible exact LeO.none _)
   | (with_reducible refine LeO.ite ?_ ?_)
   | (with_reducible refine LeO.bind ?_ (fun _ => ?_))
   | exact ih0 _ _ _ _ _ _ _ _ _
   | exact ih1 _ _ _ _ _ _ _ _ _ _ _ _
   | exact LeO.none _
   | refine LeO.ite ?_ ?_
   | refine LeO.bind ?_ (fun _ => ?_)
theorem raster_fill__raster_Flip_3.mono : ∀ a0 a1 a2 a3 a4 k, LeO (raster_fill__raster_Flip_3.f k a0 a1 a2 a3 a4) (raster_fill__raster_Flip_3.f (k + 1) a0 a1 a2 a3 a4) := by
 intro a0 a1 a2 a3 a4 k
 obtain ⟨ih0, ih1⟩ := raster_fill__raster_Flip_3.mono_l k
 unfold raster_fill__raster_Flip_3.f
 repeat' first
   | (with_reducible exact ih0 _ _ _ _ _ _ _ _ _)
   | (with_reducible exact ih1 _ _ _ _ _ _ _ _ _ _ _ _)
   | (with_reducible exact LeO.refl _)
   | (with_reducible exact LeO.none _)
   | (with_reducible refine LeO.ite ?_ ?_)
   | (with_reducible refine LeO.bind ?_ (fun _ => ?_))
   | exact ih0 _ _ _ _ _ _ _ _ _
   | exact ih1 _ _ _ _ _ _ _ _ _ _ _ _
   | exact LeO.none _
   | refine LeO.ite ?_ ?_
   | refine LeO.bind ?_ (fun _ => ?_)
def raster_fill__raster_Flip_3.T8 : Bool × List (List Nat × List Nat) := (true, [([], []), ([0], [0]), ([], []), ([], []), ([], []), ([2, 3, 4], [2, 3, 4]), ([5], [5]), ([1, 6, 5], [1, 6]), ([0, 1, 2, 3, 4, 5, 6, 7], []), ([8, 7, 7, 0, 1, 2, 3, 4, 5, 6, 7], [7, 8])])
def raster_fill__raster_Flip_3.B8 : List Nat := [0, 1, 0, 0, 0, 28, 60, 127, 255, 511]
theorem raster_fill__raster_Flip_3.tab8 : rtab .any (opsOf Try.f41 8) = raster_fill__raster_Flip_3.T8 := by kernel_rfl
theorem raster_fill__raster_Flip_3.bits8 : waitsOk raster_fill__raster_Flip_3.T8.2 raster_fill__raster_Flip_3.B8 = true := by kernel_rfl
set_option maxHeartbeats 8000000 in
set_option maxRecDepth 100000 in
theorem raster_fill__raster_Flip_3.calls (k : Nat) (a0 : Int) (a1 : Int) (gc2_0 : Nat) (a2_0 : Int) (a2_1 : Int) (A2_2 : Option Addr) (c2_2 : Nat) (l2_2 : List (S37)) (r1 : Int) (r2 : Int) (r3 : List (S37)) (w : World) (hp2_0 : w.heap[gc2_0]? = some (.cells #[.int .i64 a2_0, .int .i64 a2_1, .slice A2_2 l2_2.length c2_2] 24 (0, 0))) (hr2_2 : Kd.C k37 w A2_2 l2_2.length l2_2) (hc2_2 : l2_2.length ≤ c2_2) (h : raster_fill__raster_Flip_3.f k a0 a1 a2_0 a2_1 l2_2 = some (r1, r2, r3)) :
  Calls Try.prog 41 #[.int .i64 a0, .int .i64 a1, .func (.func 45) #[] #[.pointer (some ⟨gc2_0, 0, none⟩)]] w fun e w' => ∃ v2_ : Value, e = .returned (.agg #[.int .i64 r1, .int .i64 r2, v2_]) ∧ Kd.R k37 37 w' w.heap.size (fun _ => True) v2_ r3 ∧ Below w.heap.size w w' := by
 have hu24 := Try.underlying24
 have HR2_2 := Aside0.mk hr2_2
 have HC2_2 := Aside0.mk hc2_2
 clear hr2_2 hc2_2
 have BK760 := Aside0.mk hp2_0
 have GL760 := Aside0.mk (show gc2_0 < w.heap.size from blk_lt hp2_0)
 clear hp2_0
 have HB := Aside0.mk (Below.refl w.heap.size w)
 have H : (if 0 ≤ (wrap64 (a0 * a1)) then (if (wrap64 (a0 * a1) : Int).toNat ≤ 8796093022208 then (raster_fill__raster_Flip_3.l0 k a0 a1 0 a2_0 a2_1 l2_2 a0 a1 (([] : List (S37)))) else (none)) else (none)) = some (r1, r2, r3) := h
 clear h
 obtain ⟨ji4, hji4⟩ : ∃ j_ : Int, (wrap64 (a0 * a1)) = j_ := ⟨_, rfl⟩
 replace H : (if 0 ≤ (ji4) then (if (ji4 : Int).toNat ≤ 8796093022208 then (raster_fill__raster_Flip_3.l0 k a0 a1 0 a2_0 a2_1 l2_2 a0 a1 (([] : List (S37)))) else (none)) else (none)) = some (r1, r2, r3) := by first | (rw [hji4] at H; exact H) | (simp only [hji4] at H ⊢; exact H)
 have hji4w : (IntKind.i64.wrap (a0 * a1)) = ji4 := (i64_w _).trans hji4
 by_cases c5 : 0 ≤ (ji4)
 ·rw [if_pos c5] at H
  have c5b0 := eq_true c5
  have c5b1 : decide (0 ≤ (ji4)) = true := decide_eq_true c5
  clear c5
  by_cases c6 : (ji4 : Int).toNat ≤ 8796093022208
  ·rw [if_pos c6] at H
   have c6b0 := eq_true c6
   have c6b1 : decide ((ji4 : Int).toNat ≤ 8796093022208) = true := decide_eq_true c6
   clear c6
   obtain ⟨y762, hy762⟩ : ∃ y_ : List (S37), y_ = (([] : List (S37))) := ⟨_, rfl⟩
   replace H : (raster_fill__raster_Flip_3.l0 k a0 a1 0 a2_0 a2_1 l2_2 a0 a1 y762) = some (r1, r2, r3) := by first | (rw [hy762]; with_reducible exact H) | (have H2_ := (Option.bind_some _ _).symm.trans H; rw [hy762]; with_reducible exact H2_) | (have H2_ := (Option.bind_some _ _).symm.trans H; with_reducible exact H2_) | with_reducible exact H | (rw [hy762]; exact H) | exact H
   have Ny762 := Aside0.mk hy762
   clear hy762
   have H' := Aside0.mk H
   clear H
   go_enter Try.func41, Try.ntmps41
   go_wp2_with (first | ((with_reducible refine gate_dst (N := 6) rfl ?_); refine box_event ?hg (N := 6) ?hd (cs := #[.int .i64 0, .int .i64 0, .slice none 0 0]) (t := 24) ?hr ?_; (case hd => rfl); (case hg => rfl); (case hr => first | (go_simp; done) | (go_simp; rfl)); intro gb761 hg w7 hbox hb; have GW761 := zg HB hg; have GE761 := zg HB hg; have NB760_761 := zn BK760 hg; have NB761_760 := zn' BK760 hg; have n0_ := Aside0.mk (hbox); replace BK760 := zk BK760 hb; replace HB := zb HB hb; have BK761 := n0_; clear n0_; clear hb hbox hg) | ((with_reducible refine gate_dst (N := 15) rfl ?_); refine Kd.R_make0 k37 _ 37 rfl (N := 15) rfl 22 _ _ rfl ji4 rfl rfl Try.underlying22 (.agg #[(.int .i64 0), (.int .i64 0), (.int .i64 0), (.int .i64 0)]) 32 info37 rfl (by decide) (by omega) z37 (ok := fun _ => True) (okp := fun _ => True) (k37_mkM _ _ _ z37 ) (fun _ hk => hk) trivial (of_decide_eq_true (by first | (with_reducible assumption) | assumption)) (Nat.le_trans (Nat.mul_le_mul_right _ (of_decide_eq_true (by first | (with_reducible assumption) | assumption) : ji4.toNat ≤ 8796093022208)) (by omega)) (Below.refl _ _) (Nat.le_refl _) ?_; intro v763 w8 ho9 hb hg_ hnew_; clear hg_ hnew_; (first | rw [← Ny762.out] at ho9 | (simp only [Int.reduceToNat] at ho9; rw [← Ny762.out] at ho9)); have HO764 := zl HB ho9; replace BK760 := zk BK760 hb; replace BK761 := zk BK761 hb; replace HB := zb HB hb; clear hb ho9; obtain ⟨Ao10, co10, eo10⟩ := Kd.R_slice HO764.out; subst eo10) | ((with_reducible refine gate_dst (N := 7) rfl ?_); refine box_event ?hg (N := 7) ?hd (cs := #[.int .i64 0, .int .i64 0, .slice none 0 0]) (t := 24) ?hr ?_; (case hd => rfl); (case hg => rfl); (case hr => first | (go_simp; done) | (go_simp; rfl)); intro gb765 hg w11 hbox hb; have GW765 := zg HB hg; have GE765 := zg HB hg; have NB760_765 := zn BK760 hg; have NB765_760 := zn' BK760 hg; have NB761_765 := zn BK761 hg; have NB765_761 := zn' BK761 hg; have n0_ := Aside0.mk (hbox); replace HO764 := zr HO764 hb; replace BK760 := zk BK760 hb; replace BK761 := zk BK761 hb; replace HB := zb HB hb; have BK765 := n0_; clear n0_; clear hb hbox hg; have hnb12 := NB765_760.out; have hnc12 := NB760_765.out; have hnb13 := NB765_761.out; have hnc13 := NB761_765.out; obtain ⟨hcz14_0, hcz14_1, hcz14_2, hfz14_0, hfz14_1, hfz14_2⟩ := zq3 BK765))
   (try simp only [Act.put, sA, sB, sC])
   go_loopg [18] k (fun kq v18 w' => ∃ (x18_1 : Int) (x766002_1 : List (S37)) (u766002 : Value), v18 = .int .i64 x18_1 ∧ Aside0 (raster_fill__raster_Flip_3.l0 kq a0 a1 x18_1 a2_0 a2_1 l2_2 a0 a1 x766002_1 = some (r1, r2, r3)) ∧ Aside0 (kq ≤ k) ∧ Aside0 (Kd.R k37 37 w' w.heap.size (fun _ => True) u766002 x766002_1) ∧ Aside0 (w'.heap[gc2_0]? = some (.cells #[.int .i64 a2_0, .int .i64 a2_1, (.slice A2_2 l2_2.length c2_2)] 24 (0, 0))) ∧ Aside0 (w'.heap[gb761]? = some (.cells #[.int .i64 0, .int .i64 0, (.slice none 0 0)] 24 (0, 0))) ∧ Aside0 (w'.heap[gb765]? = some (.cells #[.int .i64 a0, .int .i64 a1, u766002] 24 (0, 0))) ∧ Aside0 (Below w.heap.size w w'))
   case atStart => exact ⟨(0), (y762), (.slice Ao10 y762.length co10), (by first | rfl | (simp; done) | (simp [*]; done)), H', ⟨Nat.le_refl _⟩, ⟨by exact zro HO764 BK765 (by decide)⟩, ⟨by exact zf BK760 NB760_765⟩, ⟨by exact zf BK761 NB761_765⟩, ⟨by exact zp BK765 rfl⟩, ⟨by exact zbo HB GE765⟩⟩
   case round =>
    clear H'
    try clear c1
    try clear c2
    try clear p2
    try clear q3
    try clear c4
    try clear c5
    try clear c5b0
    try clear c5b1
    try clear c6
    try clear c6b0
    try clear c6b1
    try clear p6
    try clear c12
    try clear c13
    try clear hcz14_0
    try clear hcz14_1
    try clear hcz14_2
    try clear hfz14_0
    try clear hfz14_1
    try clear hfz14_2
    obtain ⟨x18_1, x766002_1, u766002, rfl, HA, HK1, HO_766002, BK760, BK761, BK765, HB⟩ := hrel
    cases gk with
    | zero => exact absurd HA.out (by simp [raster_fill__raster_Flip_3.l0])
    | succ k1 =>
     have H := HA.out
     clear HA
     simp only [raster_fill__raster_Flip_3.l0] at H
     by_cases c15 : x18_1 < a1
     ·rw [if_pos c15] at H
      have c15b0 : decide (x18_1 < a1) = true := decide_eq_true c15
      clear c15
      have H' := Aside0.mk H
      clear H
      go_wp2
      go_loopg [22] k1 (fun kq v22 w' => ∃ (x22_2 : Int) (x766002_2 : List (S37)) (u766002 : Value), v22 = .int .i64 x22_2 ∧ Aside0 (raster_fill__raster_Flip_3.l1 kq a0 x18_1 a1 x18_1 a0 x22_2 a2_0 a2_1 l2_2 a0 a1 x766002_2 = some (r1, r2, r3)) ∧ Aside0 (kq ≤ k1) ∧ Aside0 (Kd.R k37 37 w' w.heap.size (fun _ => True) u766002 x766002_2) ∧ Aside0 (w'.heap[gc2_0]? = some (.cells #[.int .i64 a2_0, .int .i64 a2_1, (.slice A2_2 l2_2.length c2_2)] 24 (0, 0))) ∧ Aside0 (w'.heap[gb761]? = some (.cells #[.int .i64 0, .int .i64 0, (.slice none 0 0)] 24 (0, 0))) ∧ Aside0 (w'.heap[gb765]? = some (.cells #[.int .i64 a0, .int .i64 a1, u766002] 24 (0, 0))) ∧ Aside0 (Below w.heap.size w w'))
      case atStart => exact ⟨(0), (x766002_1), (u766002), (by first | rfl | (simp; done) | (simp [*]; done)), H', ⟨Nat.le_refl _⟩, ⟨by exact zr0 HO_766002⟩, ⟨by exact zk0 BK760⟩, ⟨by exact zk0 BK761⟩, ⟨by exact zk0 BK765⟩, ⟨by exact zb0 HB⟩⟩
      case round =>
       clear H'
       try clear c1
       try clear c2
       try clear p2
       try clear q3
       try clear c4
       try clear c5
       try clear c5b0
       try clear c5b1
       try clear c6
       try clear c6b0
       try clear c6b1
       try clear p6
       try clear c12
       try clear c13
       try clear c15
       try clear c15b0
       try clear hcz14_0
       try clear hcz14_1
       try clear hcz14_2
       try clear hfz14_0
       try clear hfz14_1
       try clear hfz14_2
       try clear p2
       try clear p6
       try clear q3
       obtain ⟨x22_2, x766002_2, u766002, rfl, HA, HK2, HO_766002, BK760, BK761, BK765, HB⟩ := hrel
       cases gk with
       | zero => exact absurd HA.out (by simp [raster_fill__raster_Flip_3.l1])
       | succ k2 =>
        have H := HA.out
        clear HA
        simp only [raster_fill__raster_Flip_3.l1] at H
        by_cases c16 : x22_2 < a0
        ·rw [if_pos c16] at H
         have c16b0 : decide (x22_2 < a0) = true := decide_eq_true c16
         clear c16
         replace H := Option.bind_eq_some_iff.mp H
         obtain ⟨⟨t766, t767, t768, t769⟩, A170, H⟩ := H
         replace H : (if x766002_2.length < 4398046511104 then (raster_fill__raster_Flip_3.l1 k2 a0 x18_1 a1 x18_1 a0 (wrap64 (x22_2 + 1)) a2_0 a2_1 l2_2 a0 a1 (x766002_2 ++ [(⟨t766, t767, t768, t769⟩ : S37)])) else (none)) = some (r1, r2, r3) := H
         have A17 := Aside0.mk A170
         clear A170
         by_cases c18 : x766002_2.length < 4398046511104
         ·rw [if_pos c18] at H
          have LMc18 := Aside0.mk c18
          clear c18
          obtain ⟨y770, hy770⟩ : ∃ y_ : List (S37), y_ = (x766002_2 ++ [(⟨t766, t767, t768, t769⟩ : S37)]) := ⟨_, rfl⟩
          replace H : (raster_fill__raster_Flip_3.l1 k2 a0 x18_1 a1 x18_1 a0 (wrap64 (x22_2 + 1)) a2_0 a2_1 l2_2 a0 a1 y770) = some (r1, r2, r3) := by first | (rw [hy770]; with_reducible exact H) | (have H2_ := (Option.bind_some _ _).symm.trans H; rw [hy770]; with_reducible exact H2_) | (have H2_ := (Option.bind_some _ _).symm.trans H; with_reducible exact H2_) | with_reducible exact H | (rw [hy770]; exact H) | exact H
          have Ny770 := Aside0.mk hy770
          clear hy770
          have H' := Aside0.mk H
          clear H
          try go_wp2
          replace HO_766002 := zrd HO_766002
          replace BK760 := zkd BK760
          replace BK761 := zkd BK761
          replace BK765 := zkd BK765
          replace HB := zbd HB
          refine start_ (n := 10) (S := fun w' => w'.cell? ⟨gb765, 0, none⟩ = some (.int .i64 a0) ∧ w'.cell? ⟨gb765, 1, none⟩ = some (.int .i64 a1) ∧ w'.cell? ⟨gb765, 2, none⟩ = some (u766002)) (ds := [9]) (bs 10 0) (by kernel_rfl) rfl rfl ⟨(blk_cell BK765.out 0).trans rfl, (blk_cell BK765.out 1).trans rfl, (blk_cell BK765.out 2).trans rfl⟩ (fun hHeld => ?_); refine with_tabW raster_fill__raster_Flip_3.tab8 raster_fill__raster_Flip_3.bits8 (fun HT_ HW_ => ?_)
          generalize wr.drew = w19 at HO_766002 BK760 BK761 BK765 HB hHeld ⊢
          refine pure_ (i := 0) (N := some 25) (v := ?_) (a' := ?_) (bs 10 1) rfl rfl (any_of HT_.out (by kernel_rfl)) (fun _ _ _ h => h) (Or.inl ⟨by rfl, ?_⟩) ?_ ?_
          rotate_left
          ·intro w'
           go_simp
           with_reducible rfl
          rotate_left
          ·simp only [Act.put, sA, sB, sC, i64_w, i32_w]
           rfl
          refine pure_ (i := 2) (N := some 27) (v := ?_) (a' := ?_) (bs 10 5) rfl rfl (any_of HT_.out (by kernel_rfl)) (fun _ _ _ h => h) (Or.inl ⟨by rfl, ?_⟩) ?_ ?_
          rotate_left
          ·intro w'
           go_simp
           with_reducible rfl
          rotate_left
          ·simp only [Act.put, sA, sB, sC, i64_w, i32_w]
           rfl
          refine pure_ (i := 3) (N := some 28) (v := ?_) (a' := ?_) (bs 10 13) rfl rfl (any_of HT_.out (by kernel_rfl)) (fun _ _ _ h => h) (Or.inl ⟨by rfl, ?_⟩) ?_ ?_
          rotate_left
          ·intro w'
           go_simp
           with_reducible rfl
          rotate_left
          ·simp only [Act.put, sA, sB, sC, i64_w, i32_w]
           rfl
          refine pure_ (i := 4) (N := some 29) (v := ?_) (a' := ?_) (bs 10 29) rfl rfl (any_of HT_.out (by kernel_rfl)) (fun _ _ _ h => h) (Or.inl ⟨by rfl, ?_⟩) ?_ ?_
          rotate_left
          ·intro w'
           go_simp
           with_reducible rfl
          rotate_left
          ·simp only [Act.put, sA, sB, sC, i64_w, i32_w]
           rfl
          refine take_ (i := 1) (N := some 26) (v := ?_) (a' := ?_) (bs 10 31) rfl rfl (take_ofW HT_.out HW_.out (by kernel_rfl)) (fun _ _ _ h => h) (Or.inl ⟨by rfl, ?_⟩) hHeld ?_ ?_
          rotate_left
          ·rintro w' ⟨s0, s1, s2⟩
           go_simp
           with_reducible rfl
          rotate_left
          ·simp only [Act.put, sA, sB, sC, i64_w, i32_w]
           rfl
          refine one_ (i := 5) (N := some 30) (bs 10 63) rfl rfl (one_of HT_.out (by kernel_rfl)) (by decide) (fun K hK => ?_)
          refine goesT_ (t := 27) Try.func45 (by kernel_rfl) rfl #[.pointer (some ⟨gc2_0, 0, none⟩)] #[.int .i64 x22_2, .int .i64 x18_1, .pointer (some ⟨gc2_0, 0, none⟩)] (by rfl) rfl rfl (by first | rfl | (go_simp; done) | (go_simp; rfl)) (by (try simp only [List.map_toArray, List.map_cons, List.map_nil]); first | done | rfl | (go_simp; done) | (go_simp; rfl)) ?_
          with_reducible refine (raster_Flip_3.calls x22_2 x18_1 gc2_0 a2_0 a2_1 A2_2 c2_2 l2_2 t766 t767 t768 t769 _ ?side1 ?side2 ?side3 A17.out).mono ?_
          (case side1 => exact zk0 BK760)
          (case side2 => repeat (first | exact (Kd.C_below HR2_2.out HB.out) | (with_reducible refine Kd.C_alloc ?_ _) | (with_reducible refine Kd.C_drewN ?_ _) | (with_reducible refine Kd.C_drew ?_)))
          (case side3 => exact HC2_2.out)
          rintro e w20 ⟨rfl, hb⟩
          refine ⟨_, rfl, ?_⟩
          replace HO_766002 := zr HO_766002 hb
          replace BK760 := zk BK760 hb
          replace BK761 := zk BK761 hb
          replace BK765 := zk BK765 hb
          replace HB := zb HB hb
          (try clear hb)
          (try clear hb2)
          (try clear hk)
          (try clear hi)
          refine hK.out _ _ ⟨(blk_cell BK765.out 0).trans rfl, (blk_cell BK765.out 1).trans rfl, (blk_cell BK765.out 2).trans rfl⟩ (fun hHeld => ?_)
          clear hK K
          refine norm_ (a' := ?_) ?_ ?_
          rotate_left
          ·show Act.put _ (some 30) _ = _
           simp only [Act.put, sA, sB, sC, i64_w, i32_w]
           rfl
          refine one_ (i := 6) (N := some 31) (bs 10 127) rfl rfl (one_of HT_.out (by kernel_rfl)) (by decide) (fun K hK => ?_)
          refine value_ (w1 := ?_) (v := ?_) (by rfl) rfl ?_ ?_
          rotate_left 2
          ·go_simp
           constructor
           ·rfl
           ·rfl
          refine hK.out _ _ ⟨(blk_cell (blk_alloc BK765.out _) 0).trans rfl, (blk_cell (blk_alloc BK765.out _) 1).trans rfl, (blk_cell (blk_alloc BK765.out _) 2).trans rfl⟩ (fun hHeld => ?_)
          clear hK K
          refine norm_ (a' := ?_) ?_ ?_
          rotate_left
          ·show Act.put _ (some 31) _ = _
           simp only [Act.put, sA, sB, sC, i64_w, i32_w]
           rfl
          refine one_ (i := 7) (N := some 32) (bs 10 255) rfl rfl (one_of HT_.out (by kernel_rfl)) (by decide) (fun K hK => ?_)
          refine Kd.R_append_step k37 (w0 := w) w.heap.size (by rfl) (.tmp 26) (.tmp 31) 22 37 (.agg #[(.int .i64 0), (.int .i64 0), (.int .i64 0), (.int .i64 0)]) 32 rfl Try.underlying22 info37 rfl (by decide) (by omega) u766002 x766002_2 (⟨t766, t767, t768, t769⟩ : S37) [.int .i64 t766, .int .i64 t767, .int .i64 t768, .int .i64 t769] (fun _ => True) (fun _ => False) rfl rfl ?aP (fun _ hk => hk.elim) ?aF ?aO ?aB ?aS ?aL ?_
          (case aP => exact k37_mkM _ _ _ (⟨t766, t767, t768, t769⟩ : S37))
          (case aB => exact (by exact zb0 HB))
          (case aF => exact (fun _ _ => trivial))
          (case aO => exact (by exact zr0 HO_766002))
          (case aS => exact (below_size (by exact zb0 HB)))
          (case aL => have := LMc18.out; omega)
          intro v771 w21 ho hb hg hat
          rw [← Ny770.out] at ho
          have n0_ := Aside0.mk (blk_grown (zk0 BK760) hg (fun e_ => Nat.not_le.2 GL760.out (Kd.R_base HO_766002.out _ e_.symm)))
          have n1_ := Aside0.mk (blk_grown (zk0 BK761) hg (Kd.R_ne HO_766002.out BK761.out (by decide)))
          have n2_ := Aside0.mk (blk_grown (zk0 BK765) hg (Kd.R_ne HO_766002.out BK765.out (by decide)))
          have n3_ := Aside0.mk (hb)
          have n4_ := Aside0.mk (ho)
          clear BK760
          clear BK761
          clear BK765
          clear HB
          clear HO_766002
          have BK760 := n0_
          have BK761 := n1_
          have BK765 := n2_
          have HB := n3_
          have HO772 := n4_
          clear n0_ n1_ n2_ n3_ n4_
          clear ho hb hg hat
          obtain ⟨Ao22, co22, eo22⟩ := Kd.R_slice HO772.out
          (first | subst eo22 | (injection eo22 with f1_ f2_ f3_; have f4_ := f1_.symm; have f5_ := f3_.symm; clear f1_ f2_ f3_; subst f4_; subst f5_))
          refine hK.out _ _ ⟨(blk_cell BK765.out 0).trans rfl, (blk_cell BK765.out 1).trans rfl, (blk_cell BK765.out 2).trans rfl⟩ (fun hHeld => ?_)
          clear hK K
          refine norm_ (a' := ?_) ?_ ?_
          rotate_left
          ·show Act.put _ (some 32) _ = _
           simp only [Act.put, sA, sB, sC, i64_w, i32_w]
           rfl
          refine pure_ (i := 8) (N := some 33) (v := ?_) (a' := ?_) (bs 10 511) rfl rfl (any_of HT_.out (by kernel_rfl)) (fun _ _ _ h => h) (Or.inl ⟨by rfl, ?_⟩) ?_ ?_
          rotate_left
          ·intro w'
           go_simp
           with_reducible rfl
          rotate_left
          ·simp only [Act.put, sA, sB, sC, i64_w, i32_w]
           rfl
          refine last_ (i := 9) (N := none) (bs 10 1023) rfl rfl (one_of HT_.out (by kernel_rfl)) (by decide) (fun K hK => ?_)
          have hs23 : w21.cell? ⟨gb765, 2, none⟩ = some (u766002) := (blk_cell BK765.out 2).trans rfl
          have hfs23 := blk_frozen BK765.out 2
          have hns23_0 := NB760_765.out
          have hns23_1 := NB761_765.out
          have hms23_0 := NB765_760.out
          have hms23_1 := NB765_761.out
          refine skip_ (w1 := ?_) (by rfl) rfl ?_ ?_
          rotate_left
          ·go_simp
           rfl
          refine hK.out _ _ ?_
          clear hK K
          refine done_ (done_of HT_.out (by kernel_rfl)) ?_
          try go_wp2
          first | go_roundg k2 | ((try subst hji4); go_roundg k2)
          case measure => have := HK1.out; have := HK2.out; omega
          case rel => first | (exact ⟨(wrap64 (x22_2 + 1)), (y770), (.slice Ao22 y770.length co22), (by first | rfl | (simp; done) | (simp [*]; done)), H', ⟨by have := HK1.out; have := HK2.out; omega⟩, ⟨by exact zro HO772 BK765 (by decide)⟩, ⟨by exact zf BK760 NB760_765⟩, ⟨by exact zf BK761 NB761_765⟩, ⟨by exact zp BK765 rfl⟩, ⟨by exact zbo HB GE765⟩⟩) | (exact ⟨(wrap64 (x22_2 + 1)), (y770), (.slice Ao22 y770.length co22), (by first | rfl | (simp; done) | (simp [*]; done)), H', ⟨by have := HK1.out; have := HK2.out; omega⟩, ⟨by exact zro HO772 BK765 (by decide)⟩, ⟨by exact zf BK760 NB760_765⟩, ⟨by exact zf BK761 NB761_765⟩, ⟨by exact zp BK765 rfl⟩, ⟨by exact zbo HB GE765⟩⟩)
         ·rw [if_neg c18] at H
          exact absurd H (by simp)
        ·rw [if_neg c16] at H
         have c16b0 : decide (x22_2 < a0) = false := decide_eq_false c16
         clear c16
         have H' := Aside0.mk H
         clear H
         go_wp2
         first | go_roundg k2 | ((try subst hji4); go_roundg k2)
         case measure => have := HK1.out; have := HK2.out; omega
         case rel => first | (exact ⟨(wrap64 (x18_1 + 1)), (x766002_2), (u766002), (by first | rfl | (simp; done) | (simp [*]; done)), H', ⟨by have := HK1.out; have := HK2.out; omega⟩, ⟨by exact zr0 HO_766002⟩, ⟨by exact zk0 BK760⟩, ⟨by exact zk0 BK761⟩, ⟨by exact zk0 BK765⟩, ⟨by exact zb0 HB⟩⟩) | (exact ⟨(wrap64 (x18_1 + 1)), (x766002_2), (u766002), (by first | rfl | (simp; done) | (simp [*]; done)), H', ⟨by have := HK1.out; have := HK2.out; omega⟩, ⟨by exact zr0 HO_766002⟩, ⟨by exact zk0 BK760⟩, ⟨by exact zk0 BK761⟩, ⟨by exact zk0 BK765⟩, ⟨by exact zb0 HB⟩⟩)
     ·rw [if_neg c15] at H
      have c15b0 : decide (x18_1 < a1) = false := decide_eq_false c15
      clear c15
      simp only [Option.some.injEq, Prod.mk.injEq] at H
      obtain ⟨rfl, rfl, rfl⟩ := H
      have hnb24 := NB765_760.out
      have hnc24 := NB760_765.out
      have hnb25 := NB765_761.out
      have hnc25 := NB761_765.out
      obtain ⟨hcz26_0, hcz26_1, hcz26_2, hfz26_0, hfz26_1, hfz26_2⟩ := zq3 BK765
      have hnb27 := NB761_760.out
      have hnc27 := NB760_761.out
      obtain ⟨hcz28_0, hcz28_1, hcz28_2, hfz28_0, hfz28_1, hfz28_2⟩ := zq3 BK761
      obtain ⟨Ao29, co29, eo29⟩ := Kd.R_slice HO_766002.out
      subst eo29
      go_wp2
      refine bodyPost_ret (results_cell_row rfl _ _ gb761 24 #[.int .i64 a0, .int .i64 a1, .slice Ao29 x766002_1.length co29] (0, 0) _ rfl (by exact zp BK761 rfl) Try.underlying24 rfl (by kernel_rfl)) rfl ?_
      exact ⟨_, by first | rfl | (simp [errW_none, errW_some] <;> rfl) | (simp only [← hji4]; first | rfl | (simp [errW_none, errW_some] <;> rfl)) | (simp [*, errW_none, errW_some] <;> rfl), by exact zro HO_766002 BK761 (by decide), by exact zbo HB GE761⟩
  ·rw [if_neg c6] at H
   exact absurd H (by simp)
 ·rw [if_neg c5] at H
  exact absurd H (by simp)

end Go.Proofs.Ytmmncannibnklaa.G
