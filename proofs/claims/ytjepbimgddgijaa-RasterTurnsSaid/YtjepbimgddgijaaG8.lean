/- Contracts of functions of the program, each as it is called: what it computes (.f), that it computes no less with more rounds (.mono), and that a call returns just that (.calls). No conditions but those that each contract names. Written by a program of this session (wip/gx.py over the kit's print). -/
import Derived.Test.YtjepbimgddgijaaG0
import Derived.Test.YtjepbimgddgijaaG1
import Derived.Test.YtjepbimgddgijaaG4
import Derived.Test.YtjepbimgddgijaaG7
namespace Go.Proofs.Ytjepbimgddgijaa.G
open Go.RowKit Go.Proofs.YtjepbimgddgijaaW.PrintWords Go.Proofs.YtjepbimgddgijaaW.PrintLast Go.Proofs.YtjepbimgddgijaaW.PrintMore
attribute [local go_sem] max2_int min2_int max_two min_two max_three min_three max_four min_four   -- for this text's walks alone
set_option linter.unusedVariables false
set_option linter.unusedSimpArgs false


/-! ### raster_fill__raster_Flip_4: function 40 -/
mutual
def raster_fill__raster_Flip_4.l0 : Nat → Int → Int → Int → Int → Int → List (S26) → Int → Int → List (S26) → Option (Int × Int × (List (S26)))
 | 0, _, _, _, _, _, _, _, _, _ => none
 | k + 1, x0, x17, x18, x345000, x345001, x345002, x350000, x350001, x350002 => if x18 < x17 then (raster_fill__raster_Flip_4.l1 k x0 x18 x17 x18 x0 0 x345000 x345001 x345002 x350000 x350001 x350002) else (some (x350000, x350001, x350002))
def raster_fill__raster_Flip_4.l1 : Nat → Int → Int → Int → Int → Int → Int → Int → Int → List (S26) → Int → Int → List (S26) → Option (Int × Int × (List (S26)))
 | 0, _, _, _, _, _, _, _, _, _, _, _, _ => none
 | k + 1, x0, x8, x17, x18, x21, x22, x345000, x345001, x345002, x350000, x350001, x350002 => if x22 < x21 then ((raster_Flip_4.f x22 x8 x345000 x345001 x345002).bind fun bt350 => (if x350002.length < 4398046511104 then (raster_fill__raster_Flip_4.l1 k x0 x8 x17 x18 x21 (wrap64 (x22 + 1)) x345000 x345001 x345002 x350000 x350001 (x350002 ++ [(⟨bt350.1, bt350.2.1, bt350.2.2.1, bt350.2.2.2⟩ : S26)])) else (none))) else (raster_fill__raster_Flip_4.l0 k x0 x17 (wrap64 (x18 + 1)) x345000 x345001 x345002 x350000 x350001 x350002)
end
def raster_fill__raster_Flip_4.f (k : Nat) (a0 : Int) (a1 : Int) (a2_0 : Int) (a2_1 : Int) (l2_2 : List (S26)) : Option (Int × Int × (List (S26))) := if 0 ≤ (wrap64 (a0 * a1)) then (if (wrap64 (a0 * a1) : Int).toNat ≤ 8796093022208 then (raster_fill__raster_Flip_4.l0 k a0 a1 0 a2_0 a2_1 l2_2 a0 a1 (([] : List (S26)))) else (none)) else (none)
theorem raster_fill__raster_Flip_4.mono_l : ∀ k, (∀ y0 y1 y2 y3 y4 y5 y6 y7 y8, LeO (raster_fill__raster_Flip_4.l0 k y0 y1 y2 y3 y4 y5 y6 y7 y8) (raster_fill__raster_Flip_4.l0 (k + 1) y0 y1 y2 y3 y4 y5 y6 y7 y8)) ∧ (∀ y0 y1 y2 y3 y4 y5 y6 y7 y8 y9 y10 y11, LeO (raster_fill__raster_Flip_4.l1 k y0 y1 y2 y3 y4 y5 y6 y7 y8 y9 y10 y11) (raster_fill__raster_Flip_4.l1 (k + 1) y0 y1 y2 y3 y4 y5 y6 y7 y8 y9 y10 y11))
 | 0 => ⟨fun _ _ _ _ _ _ _ _ _ r h => by simp [raster_fill__raster_Flip_4.l0] at h, fun _ _ _ _ _ _ _ _ _ _ _ _ r h => by simp [raster_fill__raster_Flip_4.l1] at h⟩
 | k + 1 => by
  obtain ⟨ih0, ih1⟩ := raster_fill__raster_Flip_4.mono_l k
  refine ⟨?_, ?_⟩
  ·intro y0 y1 y2 y3 y4 y5 y6 y7 y8
   unfold raster_fill__raster_Flip_4.l0
   repeat' first
   | (with_reducible exact ih0 _ _ _ _ _ _ _ _ _)
   | (with_reducible exact ih1 _ _ _ _ _ _ _ _ _ _ _ _)
   | (with_reducible exact LeO.refl _)
   | (with_reducible exact LeO.none _)
   | (with_reducible refine LeO.ite ?_ ?_)
   | (with_reducible refine LeO.bind ?_ (fun _ => ?_))
   | exact ih0 _ _ _ _ _ _ _ _ _
   | exact ih1 _ _ _ _ _ _ _ _ _ _ _ _
   | exact LeO.none _
   | refine LeO.ite ?_ ?_
   | refine LeO.bind ?_ (fun _ => ?_)
  ·intro y0 y1 y2 y3 y4 y5 y6 y7 y8 y9 y10 y11
   unfold raster_fill__raster_Flip_4.l1
   repeat' first
   | (with_reducible exact ih0 _ _ _ _ _ _ _ _ _)
   | (with_reducible exact ih1 _ _ _ _ _ _ _ _ _ _ _ _)
   | (with_reducible exact LeO.refl _)
   | (with_reducible exact LeO.none _)
   | (with_reducible refine LeO.ite ?_ ?_)
   | (with_reducible refine LeO.bind ?_ (fun _ => ?_))
   | exact ih0 _ _ _ _ _ _ _ _ _
   | exact ih1 _ _ _ _ _ _ _ _ _ _ _ _
   | exact LeO.none _
   | refine LeO.ite ?_ ?_
   | refine LeO.bind ?_ (fun _ => ?_)
theorem raster_fill__raster_Flip_4.mono : ∀ a0 a1 a2 a3 a4 k, LeO (raster_fill__raster_Flip_4.f k a0 a1 a2 a3 a4) (raster_fill__raster_Flip_4.f (k + 1) a0 a1 a2 a3 a4) := by
 intro a0 a1 a2 a3 a4 k
 obtain ⟨ih0, ih1⟩ := raster_fill__raster_Flip_4.mono_l k
 unfold raster_fill__raster_Flip_4.f
 repeat' first
   | (with_reducible exact ih0 _ _ _ _ _ _ _ _ _)
   | (with_reducible exact ih1 _ _ _ _ _ _ _ _ _ _ _ _)
   | (with_reducible exact LeO.refl _)
   | (with_reducible exact LeO.none _)
   | (with_reducible refine LeO.ite ?_ ?_)
   | (with_reducible refine LeO.bind ?_ (fun _ => ?_))
   | exact ih0 _ _ _ _ _ _ _ _ _
   | exact ih1 _ _ _ _ _ _ _ _ _ _ _ _
   | exact LeO.none _
   | refine LeO.ite ?_ ?_
   | refine LeO.bind ?_ (fun _ => ?_)
def raster_fill__raster_Flip_4.T8 : Bool × List (List Nat × List Nat) := (true, [([], []), ([0], [0]), ([], []), ([], []), ([], []), ([2, 3, 4], [2, 3, 4]), ([5], [5]), ([1, 6, 5], [1, 6]), ([0, 1, 2, 3, 4, 5, 6, 7], []), ([8, 7, 7, 0, 1, 2, 3, 4, 5, 6, 7], [7, 8])])
def raster_fill__raster_Flip_4.B8 : List Nat := [0, 1, 0, 0, 0, 28, 60, 127, 255, 511]
theorem raster_fill__raster_Flip_4.tab8 : rtab .any (opsOf Try.f40 8) = raster_fill__raster_Flip_4.T8 := by kernel_rfl
theorem raster_fill__raster_Flip_4.bits8 : waitsOk raster_fill__raster_Flip_4.T8.2 raster_fill__raster_Flip_4.B8 = true := by kernel_rfl
set_option maxHeartbeats 8000000 in
set_option maxRecDepth 100000 in
theorem raster_fill__raster_Flip_4.calls (k : Nat) (a0 : Int) (a1 : Int) (gc2_0 : Nat) (a2_0 : Int) (a2_1 : Int) (A2_2 : Option Addr) (c2_2 : Nat) (l2_2 : List (S26)) (r1 : Int) (r2 : Int) (r3 : List (S26)) (w : World) (hp2_0 : w.heap[gc2_0]? = some (.cells #[.int .i64 a2_0, .int .i64 a2_1, .slice A2_2 l2_2.length c2_2] 24 (0, 0))) (hr2_2 : Kd.C k26 w A2_2 l2_2.length l2_2) (hc2_2 : l2_2.length ≤ c2_2) (h : raster_fill__raster_Flip_4.f k a0 a1 a2_0 a2_1 l2_2 = some (r1, r2, r3)) :
  Calls Try.prog 40 #[.int .i64 a0, .int .i64 a1, .func (.func 54) #[] #[.pointer (some ⟨gc2_0, 0, none⟩)]] w fun e w' => ∃ v2_ : Value, e = .returned (.agg #[.int .i64 r1, .int .i64 r2, v2_]) ∧ Kd.R k26 26 w' w.heap.size (fun _ => True) v2_ r3 ∧ Below w.heap.size w w' := by
 have hu24 := Try.underlying24
 have HR2_2 := Aside0.mk hr2_2
 have HC2_2 := Aside0.mk hc2_2
 clear hr2_2 hc2_2
 have BK344 := Aside0.mk hp2_0
 have GL344 := Aside0.mk (show gc2_0 < w.heap.size from blk_lt hp2_0)
 clear hp2_0
 have HB := Aside0.mk (Below.refl w.heap.size w)
 have H : (if 0 ≤ (wrap64 (a0 * a1)) then (if (wrap64 (a0 * a1) : Int).toNat ≤ 8796093022208 then (raster_fill__raster_Flip_4.l0 k a0 a1 0 a2_0 a2_1 l2_2 a0 a1 (([] : List (S26)))) else (none)) else (none)) = some (r1, r2, r3) := h
 clear h
 obtain ⟨ji4, hji4⟩ : ∃ j_ : Int, (wrap64 (a0 * a1)) = j_ := ⟨_, rfl⟩
 replace H : (if 0 ≤ (ji4) then (if (ji4 : Int).toNat ≤ 8796093022208 then (raster_fill__raster_Flip_4.l0 k a0 a1 0 a2_0 a2_1 l2_2 a0 a1 (([] : List (S26)))) else (none)) else (none)) = some (r1, r2, r3) := by first | (rw [hji4] at H; exact H) | (simp only [hji4] at H ⊢; exact H)
 have hji4w : (IntKind.i64.wrap (a0 * a1)) = ji4 := (i64_w _).trans hji4
 by_cases c5 : 0 ≤ (ji4)
 ·rw [if_pos c5] at H
  have c5b0 := eq_true c5
  have c5b1 : decide (0 ≤ (ji4)) = true := decide_eq_true c5
  clear c5
  by_cases c6 : (ji4 : Int).toNat ≤ 8796093022208
  ·rw [if_pos c6] at H
   have c6b0 := eq_true c6
   have c6b1 : decide ((ji4 : Int).toNat ≤ 8796093022208) = true := decide_eq_true c6
   clear c6
   obtain ⟨y346, hy346⟩ : ∃ y_ : List (S26), y_ = (([] : List (S26))) := ⟨_, rfl⟩
   replace H : (raster_fill__raster_Flip_4.l0 k a0 a1 0 a2_0 a2_1 l2_2 a0 a1 y346) = some (r1, r2, r3) := by first | (rw [hy346]; with_reducible exact H) | (have H2_ := (Option.bind_some _ _).symm.trans H; rw [hy346]; with_reducible exact H2_) | (have H2_ := (Option.bind_some _ _).symm.trans H; with_reducible exact H2_) | with_reducible exact H | (rw [hy346]; exact H) | exact H
   have Ny346 := Aside0.mk hy346
   clear hy346
   have H' := Aside0.mk H
   clear H
   go_enter Try.func40, Try.ntmps40
   go_wp2_with (first | ((with_reducible refine gate_dst (N := 6) rfl ?_); refine box_event ?hg (N := 6) ?hd (cs := #[.int .i64 0, .int .i64 0, .slice none 0 0]) (t := 24) ?hr ?_; (case hd => rfl); (case hg => rfl); (case hr => first | (go_simp; done) | (go_simp; rfl)); intro gb345 hg w7 hbox hb; have GW345 := zg HB hg; have GE345 := zg HB hg; have NB344_345 := zn BK344 hg; have NB345_344 := zn' BK344 hg; have n0_ := Aside0.mk (hbox); replace BK344 := zk BK344 hb; replace HB := zb HB hb; have BK345 := n0_; clear n0_; clear hb hbox hg) | ((with_reducible refine gate_dst (N := 15) rfl ?_); refine Kd.R_make0 k26 _ 26 rfl (N := 15) rfl 22 _ _ rfl ji4 rfl rfl Try.underlying22 (.agg #[(.int .i64 0), (.int .i64 0), (.int .i64 0), (.int .i64 0)]) 32 info26 rfl (by decide) (by omega) z26 (ok := fun _ => True) (okp := fun _ => True) (k26_mkM _ _ _ z26 ) (fun _ hk => hk) trivial (of_decide_eq_true (by first | (with_reducible assumption) | assumption)) (Nat.le_trans (Nat.mul_le_mul_right _ (of_decide_eq_true (by first | (with_reducible assumption) | assumption) : ji4.toNat ≤ 8796093022208)) (by omega)) (Below.refl _ _) (Nat.le_refl _) ?_; intro v347 w8 ho9 hb hg_ hnew_; clear hg_ hnew_; (first | rw [← Ny346.out] at ho9 | (simp only [Int.reduceToNat] at ho9; rw [← Ny346.out] at ho9)); have HO348 := zl HB ho9; replace BK344 := zk BK344 hb; replace BK345 := zk BK345 hb; replace HB := zb HB hb; clear hb ho9; obtain ⟨Ao10, co10, eo10⟩ := Kd.R_slice HO348.out; subst eo10) | ((with_reducible refine gate_dst (N := 7) rfl ?_); refine box_event ?hg (N := 7) ?hd (cs := #[.int .i64 0, .int .i64 0, .slice none 0 0]) (t := 24) ?hr ?_; (case hd => rfl); (case hg => rfl); (case hr => first | (go_simp; done) | (go_simp; rfl)); intro gb349 hg w11 hbox hb; have GW349 := zg HB hg; have GE349 := zg HB hg; have NB344_349 := zn BK344 hg; have NB349_344 := zn' BK344 hg; have NB345_349 := zn BK345 hg; have NB349_345 := zn' BK345 hg; have n0_ := Aside0.mk (hbox); replace HO348 := zr HO348 hb; replace BK344 := zk BK344 hb; replace BK345 := zk BK345 hb; replace HB := zb HB hb; have BK349 := n0_; clear n0_; clear hb hbox hg; have hnb12 := NB349_344.out; have hnc12 := NB344_349.out; have hnb13 := NB349_345.out; have hnc13 := NB345_349.out; obtain ⟨hcz14_0, hcz14_1, hcz14_2, hfz14_0, hfz14_1, hfz14_2⟩ := zq3 BK349))
   (try simp only [Act.put, sA, sB, sC])
   go_loopg [18] k (fun kq v18 w' => ∃ (x18_1 : Int) (x350002_1 : List (S26)) (u350002 : Value), v18 = .int .i64 x18_1 ∧ Aside0 (raster_fill__raster_Flip_4.l0 kq a0 a1 x18_1 a2_0 a2_1 l2_2 a0 a1 x350002_1 = some (r1, r2, r3)) ∧ Aside0 (kq ≤ k) ∧ Aside0 (Kd.R k26 26 w' w.heap.size (fun _ => True) u350002 x350002_1) ∧ Aside0 (w'.heap[gc2_0]? = some (.cells #[.int .i64 a2_0, .int .i64 a2_1, (.slice A2_2 l2_2.length c2_2)] 24 (0, 0))) ∧ Aside0 (w'.heap[gb345]? = some (.cells #[.int .i64 0, .int .i64 0, (.slice none 0 0)] 24 (0, 0))) ∧ Aside0 (w'.heap[gb349]? = some (.cells #[.int .i64 a0, .int .i64 a1, u350002] 24 (0, 0))) ∧ Aside0 (Below w.heap.size w w'))
   case atStart => exact ⟨(0), (y346), (.slice Ao10 y346.length co10), (by first | rfl | (simp; done) | (simp [*]; done)), H', ⟨Nat.le_refl _⟩, ⟨by exact zro HO348 BK349 (by decide)⟩, ⟨by exact zf BK344 NB344_349⟩, ⟨by exact zf BK345 NB345_349⟩, ⟨by exact zp BK349 rfl⟩, ⟨by exact zbo HB GE349⟩⟩
   case round =>
    clear H'
    try clear c1
    try clear c2
    try clear p2
    try clear q3
    try clear c4
    try clear c5
    try clear c5b0
    try clear c5b1
    try clear c6
    try clear c6b0
    try clear c6b1
    try clear p6
    try clear c12
    try clear c13
    try clear hcz14_0
    try clear hcz14_1
    try clear hcz14_2
    try clear hfz14_0
    try clear hfz14_1
    try clear hfz14_2
    obtain ⟨x18_1, x350002_1, u350002, rfl, HA, HK1, HO_350002, BK344, BK345, BK349, HB⟩ := hrel
    cases gk with
    | zero => exact absurd HA.out (by simp [raster_fill__raster_Flip_4.l0])
    | succ k1 =>
     have H := HA.out
     clear HA
     simp only [raster_fill__raster_Flip_4.l0] at H
     by_cases c15 : x18_1 < a1
     ·rw [if_pos c15] at H
      have c15b0 : decide (x18_1 < a1) = true := decide_eq_true c15
      clear c15
      have H' := Aside0.mk H
      clear H
      go_wp2
      go_loopg [22] k1 (fun kq v22 w' => ∃ (x22_2 : Int) (x350002_2 : List (S26)) (u350002 : Value), v22 = .int .i64 x22_2 ∧ Aside0 (raster_fill__raster_Flip_4.l1 kq a0 x18_1 a1 x18_1 a0 x22_2 a2_0 a2_1 l2_2 a0 a1 x350002_2 = some (r1, r2, r3)) ∧ Aside0 (kq ≤ k1) ∧ Aside0 (Kd.R k26 26 w' w.heap.size (fun _ => True) u350002 x350002_2) ∧ Aside0 (w'.heap[gc2_0]? = some (.cells #[.int .i64 a2_0, .int .i64 a2_1, (.slice A2_2 l2_2.length c2_2)] 24 (0, 0))) ∧ Aside0 (w'.heap[gb345]? = some (.cells #[.int .i64 0, .int .i64 0, (.slice none 0 0)] 24 (0, 0))) ∧ Aside0 (w'.heap[gb349]? = some (.cells #[.int .i64 a0, .int .i64 a1, u350002] 24 (0, 0))) ∧ Aside0 (Below w.heap.size w w'))
      case atStart => exact ⟨(0), (x350002_1), (u350002), (by first | rfl | (simp; done) | (simp [*]; done)), H', ⟨Nat.le_refl _⟩, ⟨by exact zr0 HO_350002⟩, ⟨by exact zk0 BK344⟩, ⟨by exact zk0 BK345⟩, ⟨by exact zk0 BK349⟩, ⟨by exact zb0 HB⟩⟩
      case round =>
       clear H'
       try clear c1
       try clear c2
       try clear p2
       try clear q3
       try clear c4
       try clear c5
       try clear c5b0
       try clear c5b1
       try clear c6
       try clear c6b0
       try clear c6b1
       try clear p6
       try clear c12
       try clear c13
       try clear c15
       try clear c15b0
       try clear hcz14_0
       try clear hcz14_1
       try clear hcz14_2
       try clear hfz14_0
       try clear hfz14_1
       try clear hfz14_2
       try clear p2
       try clear p6
       try clear q3
       obtain ⟨x22_2, x350002_2, u350002, rfl, HA, HK2, HO_350002, BK344, BK345, BK349, HB⟩ := hrel
       cases gk with
       | zero => exact absurd HA.out (by simp [raster_fill__raster_Flip_4.l1])
       | succ k2 =>
        have H := HA.out
        clear HA
        simp only [raster_fill__raster_Flip_4.l1] at H
        by_cases c16 : x22_2 < a0
        ·rw [if_pos c16] at H
         have c16b0 : decide (x22_2 < a0) = true := decide_eq_true c16
         clear c16
         replace H := Option.bind_eq_some_iff.mp H
         obtain ⟨⟨t350, t351, t352, t353⟩, A170, H⟩ := H
         replace H : (if x350002_2.length < 4398046511104 then (raster_fill__raster_Flip_4.l1 k2 a0 x18_1 a1 x18_1 a0 (wrap64 (x22_2 + 1)) a2_0 a2_1 l2_2 a0 a1 (x350002_2 ++ [(⟨t350, t351, t352, t353⟩ : S26)])) else (none)) = some (r1, r2, r3) := H
         have A17 := Aside0.mk A170
         clear A170
         by_cases c18 : x350002_2.length < 4398046511104
         ·rw [if_pos c18] at H
          have LMc18 := Aside0.mk c18
          clear c18
          obtain ⟨y354, hy354⟩ : ∃ y_ : List (S26), y_ = (x350002_2 ++ [(⟨t350, t351, t352, t353⟩ : S26)]) := ⟨_, rfl⟩
          replace H : (raster_fill__raster_Flip_4.l1 k2 a0 x18_1 a1 x18_1 a0 (wrap64 (x22_2 + 1)) a2_0 a2_1 l2_2 a0 a1 y354) = some (r1, r2, r3) := by first | (rw [hy354]; with_reducible exact H) | (have H2_ := (Option.bind_some _ _).symm.trans H; rw [hy354]; with_reducible exact H2_) | (have H2_ := (Option.bind_some _ _).symm.trans H; with_reducible exact H2_) | with_reducible exact H | (rw [hy354]; exact H) | exact H
          have Ny354 := Aside0.mk hy354
          clear hy354
          have H' := Aside0.mk H
          clear H
          try go_wp2
          replace HO_350002 := zrd HO_350002
          replace BK344 := zkd BK344
          replace BK345 := zkd BK345
          replace BK349 := zkd BK349
          replace HB := zbd HB
          refine start_ (n := 10) (S := fun w' => w'.cell? ⟨gb349, 0, none⟩ = some (.int .i64 a0) ∧ w'.cell? ⟨gb349, 1, none⟩ = some (.int .i64 a1) ∧ w'.cell? ⟨gb349, 2, none⟩ = some (u350002)) (ds := [9]) (bs 10 0) (by kernel_rfl) rfl rfl ⟨(blk_cell BK349.out 0).trans rfl, (blk_cell BK349.out 1).trans rfl, (blk_cell BK349.out 2).trans rfl⟩ (fun hHeld => ?_); refine with_tabW raster_fill__raster_Flip_4.tab8 raster_fill__raster_Flip_4.bits8 (fun HT_ HW_ => ?_)
          generalize wr.drew = w19 at HO_350002 BK344 BK345 BK349 HB hHeld ⊢
          refine pure_ (i := 0) (N := some 25) (v := ?_) (a' := ?_) (bs 10 1) rfl rfl (any_of HT_.out (by kernel_rfl)) (fun _ _ _ h => h) (Or.inl ⟨by rfl, ?_⟩) ?_ ?_
          rotate_left
          ·intro w'
           go_simp
           with_reducible rfl
          rotate_left
          ·simp only [Act.put, sA, sB, sC, i64_w, i32_w]
           rfl
          refine pure_ (i := 2) (N := some 27) (v := ?_) (a' := ?_) (bs 10 5) rfl rfl (any_of HT_.out (by kernel_rfl)) (fun _ _ _ h => h) (Or.inl ⟨by rfl, ?_⟩) ?_ ?_
          rotate_left
          ·intro w'
           go_simp
           with_reducible rfl
          rotate_left
          ·simp only [Act.put, sA, sB, sC, i64_w, i32_w]
           rfl
          refine pure_ (i := 3) (N := some 28) (v := ?_) (a' := ?_) (bs 10 13) rfl rfl (any_of HT_.out (by kernel_rfl)) (fun _ _ _ h => h) (Or.inl ⟨by rfl, ?_⟩) ?_ ?_
          rotate_left
          ·intro w'
           go_simp
           with_reducible rfl
          rotate_left
          ·simp only [Act.put, sA, sB, sC, i64_w, i32_w]
           rfl
          refine pure_ (i := 4) (N := some 29) (v := ?_) (a' := ?_) (bs 10 29) rfl rfl (any_of HT_.out (by kernel_rfl)) (fun _ _ _ h => h) (Or.inl ⟨by rfl, ?_⟩) ?_ ?_
          rotate_left
          ·intro w'
           go_simp
           with_reducible rfl
          rotate_left
          ·simp only [Act.put, sA, sB, sC, i64_w, i32_w]
           rfl
          refine take_ (i := 1) (N := some 26) (v := ?_) (a' := ?_) (bs 10 31) rfl rfl (take_ofW HT_.out HW_.out (by kernel_rfl)) (fun _ _ _ h => h) (Or.inl ⟨by rfl, ?_⟩) hHeld ?_ ?_
          rotate_left
          ·rintro w' ⟨s0, s1, s2⟩
           go_simp
           with_reducible rfl
          rotate_left
          ·simp only [Act.put, sA, sB, sC, i64_w, i32_w]
           rfl
          refine one_ (i := 5) (N := some 30) (bs 10 63) rfl rfl (one_of HT_.out (by kernel_rfl)) (by decide) (fun K hK => ?_)
          refine goesT_ (t := 27) Try.func54 (by kernel_rfl) rfl #[.pointer (some ⟨gc2_0, 0, none⟩)] #[.int .i64 x22_2, .int .i64 x18_1, .pointer (some ⟨gc2_0, 0, none⟩)] (by rfl) rfl rfl (by first | rfl | (go_simp; done) | (go_simp; rfl)) (by (try simp only [List.map_toArray, List.map_cons, List.map_nil]); first | done | rfl | (go_simp; done) | (go_simp; rfl)) ?_
          with_reducible refine (raster_Flip_4.calls x22_2 x18_1 gc2_0 a2_0 a2_1 A2_2 c2_2 l2_2 t350 t351 t352 t353 _ ?side1 ?side2 ?side3 A17.out).mono ?_
          (case side1 => exact zk0 BK344)
          (case side2 => repeat (first | exact (Kd.C_below HR2_2.out HB.out) | (with_reducible refine Kd.C_alloc ?_ _) | (with_reducible refine Kd.C_drewN ?_ _) | (with_reducible refine Kd.C_drew ?_)))
          (case side3 => exact HC2_2.out)
          rintro e w20 ⟨rfl, hb⟩
          refine ⟨_, rfl, ?_⟩
          replace HO_350002 := zr HO_350002 hb
          replace BK344 := zk BK344 hb
          replace BK345 := zk BK345 hb
          replace BK349 := zk BK349 hb
          replace HB := zb HB hb
          (try clear hb)
          (try clear hb2)
          (try clear hk)
          (try clear hi)
          refine hK.out _ _ ⟨(blk_cell BK349.out 0).trans rfl, (blk_cell BK349.out 1).trans rfl, (blk_cell BK349.out 2).trans rfl⟩ (fun hHeld => ?_)
          clear hK K
          refine norm_ (a' := ?_) ?_ ?_
          rotate_left
          ·show Act.put _ (some 30) _ = _
           simp only [Act.put, sA, sB, sC, i64_w, i32_w]
           rfl
          refine one_ (i := 6) (N := some 31) (bs 10 127) rfl rfl (one_of HT_.out (by kernel_rfl)) (by decide) (fun K hK => ?_)
          refine value_ (w1 := ?_) (v := ?_) (by rfl) rfl ?_ ?_
          rotate_left 2
          ·go_simp
           constructor
           ·rfl
           ·rfl
          refine hK.out _ _ ⟨(blk_cell (blk_alloc BK349.out _) 0).trans rfl, (blk_cell (blk_alloc BK349.out _) 1).trans rfl, (blk_cell (blk_alloc BK349.out _) 2).trans rfl⟩ (fun hHeld => ?_)
          clear hK K
          refine norm_ (a' := ?_) ?_ ?_
          rotate_left
          ·show Act.put _ (some 31) _ = _
           simp only [Act.put, sA, sB, sC, i64_w, i32_w]
           rfl
          refine one_ (i := 7) (N := some 32) (bs 10 255) rfl rfl (one_of HT_.out (by kernel_rfl)) (by decide) (fun K hK => ?_)
          refine Kd.R_append_step k26 (w0 := w) w.heap.size (by rfl) (.tmp 26) (.tmp 31) 22 26 (.agg #[(.int .i64 0), (.int .i64 0), (.int .i64 0), (.int .i64 0)]) 32 rfl Try.underlying22 info26 rfl (by decide) (by omega) u350002 x350002_2 (⟨t350, t351, t352, t353⟩ : S26) [.int .i64 t350, .int .i64 t351, .int .i64 t352, .int .i64 t353] (fun _ => True) (fun _ => False) rfl rfl ?aP (fun _ hk => hk.elim) ?aF ?aO ?aB ?aS ?aL ?_
          (case aP => exact k26_mkM _ _ _ (⟨t350, t351, t352, t353⟩ : S26))
          (case aB => exact (by exact zb0 HB))
          (case aF => exact (fun _ _ => trivial))
          (case aO => exact (by exact zr0 HO_350002))
          (case aS => exact (below_size (by exact zb0 HB)))
          (case aL => have := LMc18.out; omega)
          intro v355 w21 ho hb hg hat
          rw [← Ny354.out] at ho
          have n0_ := Aside0.mk (blk_grown (zk0 BK344) hg (fun e_ => Nat.not_le.2 GL344.out (Kd.R_base HO_350002.out _ e_.symm)))
          have n1_ := Aside0.mk (blk_grown (zk0 BK345) hg (Kd.R_ne HO_350002.out BK345.out (by decide)))
          have n2_ := Aside0.mk (blk_grown (zk0 BK349) hg (Kd.R_ne HO_350002.out BK349.out (by decide)))
          have n3_ := Aside0.mk (hb)
          have n4_ := Aside0.mk (ho)
          clear BK344
          clear BK345
          clear BK349
          clear HB
          clear HO_350002
          have BK344 := n0_
          have BK345 := n1_
          have BK349 := n2_
          have HB := n3_
          have HO356 := n4_
          clear n0_ n1_ n2_ n3_ n4_
          clear ho hb hg hat
          obtain ⟨Ao22, co22, eo22⟩ := Kd.R_slice HO356.out
          (first | subst eo22 | (injection eo22 with f1_ f2_ f3_; have f4_ := f1_.symm; have f5_ := f3_.symm; clear f1_ f2_ f3_; subst f4_; subst f5_))
          refine hK.out _ _ ⟨(blk_cell BK349.out 0).trans rfl, (blk_cell BK349.out 1).trans rfl, (blk_cell BK349.out 2).trans rfl⟩ (fun hHeld => ?_)
          clear hK K
          refine norm_ (a' := ?_) ?_ ?_
          rotate_left
          ·show Act.put _ (some 32) _ = _
           simp only [Act.put, sA, sB, sC, i64_w, i32_w]
           rfl
          refine pure_ (i := 8) (N := some 33) (v := ?_) (a' := ?_) (bs 10 511) rfl rfl (any_of HT_.out (by kernel_rfl)) (fun _ _ _ h => h) (Or.inl ⟨by rfl, ?_⟩) ?_ ?_
          rotate_left
          ·intro w'
           go_simp
           with_reducible rfl
          rotate_left
          ·simp only [Act.put, sA, sB, sC, i64_w, i32_w]
           rfl
          refine last_ (i := 9) (N := none) (bs 10 1023) rfl rfl (one_of HT_.out (by kernel_rfl)) (by decide) (fun K hK => ?_)
          have hs23 : w21.cell? ⟨gb349, 2, none⟩ = some (u350002) := (blk_cell BK349.out 2).trans rfl
          have hfs23 := blk_frozen BK349.out 2
          have hns23_0 := NB344_349.out
          have hns23_1 := NB345_349.out
          have hms23_0 := NB349_344.out
          have hms23_1 := NB349_345.out
          refine skip_ (w1 := ?_) (by rfl) rfl ?_ ?_
          rotate_left
          ·go_simp
           rfl
          refine hK.out _ _ ?_
          clear hK K
          refine done_ (done_of HT_.out (by kernel_rfl)) ?_
          try go_wp2
          first | go_roundg k2 | ((try subst hji4); go_roundg k2)
          case measure => have := HK1.out; have := HK2.out; omega
          case rel => first | (exact ⟨(wrap64 (x22_2 + 1)), (y354), (.slice Ao22 y354.length co22), (by first | rfl | (simp; done) | (simp [*]; done)), H', ⟨by have := HK1.out; have := HK2.out; omega⟩, ⟨by exact zro HO356 BK349 (by decide)⟩, ⟨by exact zf BK344 NB344_349⟩, ⟨by exact zf BK345 NB345_349⟩, ⟨by exact zp BK349 rfl⟩, ⟨by exact zbo HB GE349⟩⟩) | (exact ⟨(wrap64 (x22_2 + 1)), (y354), (.slice Ao22 y354.length co22), (by first | rfl | (simp; done) | (simp [*]; done)), H', ⟨by have := HK1.out; have := HK2.out; omega⟩, ⟨by exact zro HO356 BK349 (by decide)⟩, ⟨by exact zf BK344 NB344_349⟩, ⟨by exact zf BK345 NB345_349⟩, ⟨by exact zp BK349 rfl⟩, ⟨by exact zbo HB GE349⟩⟩)
         ·rw [if_neg c18] at H
          exact absurd H (by simp)
        ·rw [if_neg c16] at H
         have c16b0 : decide (x22_2 < a0) = false := decide_eq_false c16
         clear c16
         have H' := Aside0.mk H
         clear H
         go_wp2
         first | go_roundg k2 | ((try subst hji4); go_roundg k2)
         case measure => have := HK1.out; have := HK2.out; omega
         case rel => first | (exact ⟨(wrap64 (x18_1 + 1)), (x350002_2), (u350002), (by first | rfl | (simp; done) | (simp [*]; done)), H', ⟨by have := HK1.out; have := HK2.out; omega⟩, ⟨by exact zr0 HO_350002⟩, ⟨by exact zk0 BK344⟩, ⟨by exact zk0 BK345⟩, ⟨by exact zk0 BK349⟩, ⟨by exact zb0 HB⟩⟩) | (exact ⟨(wrap64 (x18_1 + 1)), (x350002_2), (u350002), (by first | rfl | (simp; done) | (simp [*]; done)), H', ⟨by have := HK1.out; have := HK2.out; omega⟩, ⟨by exact zr0 HO_350002⟩, ⟨by exact zk0 BK344⟩, ⟨by exact zk0 BK345⟩, ⟨by exact zk0 BK349⟩, ⟨by exact zb0 HB⟩⟩)
     ·rw [if_neg c15] at H
      have c15b0 : decide (x18_1 < a1) = false := decide_eq_false c15
      clear c15
      simp only [Option.some.injEq, Prod.mk.injEq] at H
      obtain ⟨rfl, rfl, rfl⟩ := H
      have hnb24 := NB349_344.out
      have hnc24 := NB344_349.out
      have hnb25 := NB349_345.out
      have hnc25 := NB345_349.out
      obtain ⟨hcz26_0, hcz26_1, hcz26_2, hfz26_0, hfz26_1, hfz26_2⟩ := zq3 BK349
      have hnb27 := NB345_344.out
      have hnc27 := NB344_345.out
      obtain ⟨hcz28_0, hcz28_1, hcz28_2, hfz28_0, hfz28_1, hfz28_2⟩ := zq3 BK345
      obtain ⟨Ao29, co29, eo29⟩ := Kd.R_slice HO_350002.out
      subst eo29
      go_wp2
      refine bodyPost_ret (results_cell_row rfl _ _ gb345 24 #[.int .i64 a0, .int .i64 a1, .slice Ao29 x350002_1.length co29] (0, 0) _ rfl (by exact zp BK345 rfl) Try.underlying24 rfl (by kernel_rfl)) rfl ?_
      exact ⟨_, by first | rfl | (simp [errW_none, errW_some] <;> rfl) | (simp only [← hji4]; first | rfl | (simp [errW_none, errW_some] <;> rfl)) | (simp [*, errW_none, errW_some] <;> rfl), by exact zro HO_350002 BK345 (by decide), by exact zbo HB GE345⟩
  ·rw [if_neg c6] at H
   exact absurd H (by simp)
 ·rw [if_neg c5] at H
  exact absurd H (by simp)

/-! ### raster_Flip: function 31 -/
def raster_Flip.f (k : Nat) (a0_0 : Int) (a0_1 : Int) (l0_2 : List (S26)) (a1 : Int) : Option (Int × Int × (List (S26)) × Int) := (raster_Check.f k a0_0 a0_1 l0_2).bind fun t359 => (if t359 = 0 then (if a1 = 1 then ((raster_fill__raster_Flip_1.f k a0_0 a0_1 a0_0 a0_1 l0_2).bind fun bt360 => (some (bt360.1, bt360.2.1, bt360.2.2, 0))) else (if a1 = 2 then ((raster_fill__raster_Flip_2.f k a0_0 a0_1 a0_0 a0_1 l0_2).bind fun bt365 => (some (bt365.1, bt365.2.1, bt365.2.2, 0))) else (if a1 = 3 then ((raster_fill__raster_Flip_3.f k a0_1 a0_0 a0_0 a0_1 l0_2).bind fun bt370 => (some (bt370.1, bt370.2.1, bt370.2.2, 0))) else (if a1 = 4 then ((raster_fill__raster_Flip_4.f k a0_0 a0_1 a0_0 a0_1 l0_2).bind fun bt375 => (some (bt375.1, bt375.2.1, bt375.2.2, 0))) else (some (0, 0, ([] : List (S26)), 8)))))) else (some (0, 0, ([] : List (S26)), t359)))
theorem raster_Flip.mono : ∀ a0 a1 a2 a3 k, LeO (raster_Flip.f k a0 a1 a2 a3) (raster_Flip.f (k + 1) a0 a1 a2 a3) := by
 intro a0 a1 a2 a3 k
 unfold raster_Flip.f
 repeat' first
   | (with_reducible exact raster_Check.mono _ _ _ _)
   | (with_reducible exact raster_fill__raster_Flip_1.mono _ _ _ _ _ _)
   | (with_reducible exact raster_fill__raster_Flip_2.mono _ _ _ _ _ _)
   | (with_reducible exact raster_fill__raster_Flip_3.mono _ _ _ _ _ _)
   | (with_reducible exact raster_fill__raster_Flip_4.mono _ _ _ _ _ _)
   | (with_reducible exact LeO.refl _)
   | (with_reducible exact LeO.none _)
   | (with_reducible refine LeO.ite ?_ ?_)
   | (with_reducible refine LeO.bind ?_ (fun _ => ?_))
   | exact raster_Check.mono _ _ _ _
   | exact raster_fill__raster_Flip_1.mono _ _ _ _ _ _
   | exact raster_fill__raster_Flip_2.mono _ _ _ _ _ _
   | exact raster_fill__raster_Flip_3.mono _ _ _ _ _ _
   | exact raster_fill__raster_Flip_4.mono _ _ _ _ _ _
   | exact LeO.none _
   | refine LeO.ite ?_ ?_
   | refine LeO.bind ?_ (fun _ => ?_)
set_option maxHeartbeats 8000000 in
set_option maxRecDepth 100000 in
theorem raster_Flip.calls (k : Nat) (a0_0 : Int) (a0_1 : Int) (A0_2 : Option Addr) (c0_2 : Nat) (l0_2 : List (S26)) (a1 : Int) (r1 : Int) (r2 : Int) (r3 : List (S26)) (r4 : Int) (w : World) (hr0_2 : Kd.C k26 w A0_2 l0_2.length l0_2) (hc0_2 : l0_2.length ≤ c0_2) (h : raster_Flip.f k a0_0 a0_1 l0_2 a1 = some (r1, r2, r3, r4)) :
  Calls Try.prog 31 #[.agg #[.int .i64 a0_0, .int .i64 a0_1, .slice A0_2 l0_2.length c0_2], .int .i64 a1] w fun e w' => ∃ v2_ : Value, e = .returned (.tuple #[.agg #[.int .i64 r1, .int .i64 r2, v2_], .int .i64 r4]) ∧ Kd.R k26 26 w' w.heap.size (fun _ => True) v2_ r3 ∧ Below w.heap.size w w' := by
 have hu24 := Try.underlying24
 have HR0_2 := Aside0.mk hr0_2
 have HC0_2 := Aside0.mk hc0_2
 clear hr0_2 hc0_2
 have HB := Aside0.mk (Below.refl w.heap.size w)
 have H : ((raster_Check.f k a0_0 a0_1 l0_2).bind fun t359 => (if t359 = 0 then (if a1 = 1 then ((raster_fill__raster_Flip_1.f k a0_0 a0_1 a0_0 a0_1 l0_2).bind fun bt360 => (some (bt360.1, bt360.2.1, bt360.2.2, 0))) else (if a1 = 2 then ((raster_fill__raster_Flip_2.f k a0_0 a0_1 a0_0 a0_1 l0_2).bind fun bt365 => (some (bt365.1, bt365.2.1, bt365.2.2, 0))) else (if a1 = 3 then ((raster_fill__raster_Flip_3.f k a0_1 a0_0 a0_0 a0_1 l0_2).bind fun bt370 => (some (bt370.1, bt370.2.1, bt370.2.2, 0))) else (if a1 = 4 then ((raster_fill__raster_Flip_4.f k a0_0 a0_1 a0_0 a0_1 l0_2).bind fun bt375 => (some (bt375.1, bt375.2.1, bt375.2.2, 0))) else (some (0, 0, ([] : List (S26)), 8)))))) else (some (0, 0, ([] : List (S26)), t359)))) = some (r1, r2, r3, r4) := h
 clear h
 replace H := Option.bind_eq_some_iff.mp H
 obtain ⟨t359, A30, H⟩ := H
 replace H : (if t359 = 0 then (if a1 = 1 then ((raster_fill__raster_Flip_1.f k a0_0 a0_1 a0_0 a0_1 l0_2).bind fun bt360 => (some (bt360.1, bt360.2.1, bt360.2.2, 0))) else (if a1 = 2 then ((raster_fill__raster_Flip_2.f k a0_0 a0_1 a0_0 a0_1 l0_2).bind fun bt365 => (some (bt365.1, bt365.2.1, bt365.2.2, 0))) else (if a1 = 3 then ((raster_fill__raster_Flip_3.f k a0_1 a0_0 a0_0 a0_1 l0_2).bind fun bt370 => (some (bt370.1, bt370.2.1, bt370.2.2, 0))) else (if a1 = 4 then ((raster_fill__raster_Flip_4.f k a0_0 a0_1 a0_0 a0_1 l0_2).bind fun bt375 => (some (bt375.1, bt375.2.1, bt375.2.2, 0))) else (some (0, 0, ([] : List (S26)), 8)))))) else (some (0, 0, ([] : List (S26)), t359))) = some (r1, r2, r3, r4) := H
 have A3 := Aside0.mk A30
 clear A30
 by_cases c4 : t359 = 0
 ·rw [if_pos c4] at H
  have c4b0 : (t359 == 0) = true := beq_iff_eq.mpr c4
  have c4b1 : (t359 != 0) = false := bne_eq_false_iff_eq.mpr c4
  clear c4
  by_cases c5 : a1 = 1
  ·rw [if_pos c5] at H
   have c5b0 : (a1 == 1) = true := beq_iff_eq.mpr c5
   have c5b1 : (a1 != 1) = false := bne_eq_false_iff_eq.mpr c5
   clear c5
   replace H := Option.bind_eq_some_iff.mp H
   obtain ⟨⟨t360, t361, t362⟩, A60, H⟩ := H
   replace H : (some (t360, t361, t362, 0)) = some (r1, r2, r3, r4) := H
   have A6 := Aside0.mk A60
   clear A60
   simp only [Option.some.injEq, Prod.mk.injEq] at H
   obtain ⟨rfl, rfl, rfl, rfl⟩ := H
   go_enter Try.func31, Try.ntmps31
   go_wp2_with (first | ((with_reducible refine gate_dst (N := 2) rfl ?_); refine box_event ?hg (N := 2) ?hd (cs := #[.int .i64 a0_0, .int .i64 a0_1, .slice A0_2 l0_2.length c0_2]) (t := 24) ?hr ?_; (case hd => rfl); (case hg => rfl); (case hr => first | (go_simp; done) | (go_simp; rfl)); intro gb357 hg w7 hbox hb; have GW357 := zg HB hg; have GE357 := zg HB hg; have n0_ := Aside0.mk (hbox); replace HB := zb HB hb; have BK357 := n0_; clear n0_; clear hb hbox hg) | ((with_reducible refine gate_dst (N := 4) rfl ?_); refine box_event ?hg (N := 4) ?hd (cs := #[.int .i64 0, .int .i64 0, .slice none 0 0]) (t := 24) ?hr ?_; (case hd => rfl); (case hg => rfl); (case hr => first | (go_simp; done) | (go_simp; rfl)); intro gb358 hg w8 hbox hb; have GW358 := zg HB hg; have GE358 := zg HB hg; have NB357_358 := zn BK357 hg; have NB358_357 := zn' BK357 hg; have n0_ := Aside0.mk (hbox); replace BK357 := zk BK357 hb; replace HB := zb HB hb; have BK358 := n0_; clear n0_; clear hb hbox hg; have hnb9 := NB357_358.out; have hnc9 := NB358_357.out; obtain ⟨hcz10_0, hcz10_1, hcz10_2, hfz10_0, hfz10_1, hfz10_2⟩ := zq3 BK357) | ((with_reducible refine gate_callee (f := 18) rfl ?_); refine goesL_ (some 8) rfl rfl Try.func18 (by kernel_rfl) rfl #[.agg #[.int .i64 a0_0, .int .i64 a0_1, .slice A0_2 l0_2.length c0_2]] rfl (by (try simp only [List.map_toArray, List.map_cons, List.map_nil]); first | done | rfl | (simp only [List.length_drop, List.length_take]; rfl)) ?_; (with_reducible refine (raster_Check.calls k a0_0 a0_1 _ _ l0_2 t359 _ ?side1 ?side2 A3.out).mono ?_); (case side1 => repeat (first | exact (Kd.C_below HR0_2.out HB.out) | (with_reducible refine Kd.C_alloc ?_ _) | (with_reducible refine Kd.C_drewN ?_ _) | (with_reducible refine Kd.C_drew ?_))); (case side2 => exact HC0_2.out); rintro e w11 ⟨rfl, hb⟩; refine ⟨_, rfl, ?_⟩; replace BK357 := zk BK357 hb; replace BK358 := zk BK358 hb; replace HB := zb HB hb; (try clear hb); (try clear hb2); (try clear hk); (try clear hi); obtain ⟨hcz12_0, hcz12_1, hcz12_2, hfz12_0, hfz12_1, hfz12_2⟩ := zq3 BK357) | ((with_reducible refine gate_callee (f := 40) rfl ?_); refine goesL_ (some 21) rfl rfl Try.func40 (by kernel_rfl) rfl #[.int .i64 a0_0, .int .i64 a0_1, .func (.func 51) #[] #[.pointer (some ⟨gb357, 0, none⟩)]] rfl (by (try simp only [List.map_toArray, List.map_cons, List.map_nil]); first | done | rfl | (simp only [List.length_drop, List.length_take]; rfl)) ?_; (with_reducible refine (raster_fill__raster_Flip_1.calls k a0_0 a0_1 gb357 a0_0 a0_1 A0_2 c0_2 l0_2 t360 t361 t362 _ ?side1 ?side2 ?side3 A6.out).mono ?_); (case side1 => exact zk0 BK357); (case side2 => repeat (first | exact (Kd.C_below HR0_2.out HB.out) | (with_reducible refine Kd.C_alloc ?_ _) | (with_reducible refine Kd.C_drewN ?_ _) | (with_reducible refine Kd.C_drew ?_))); (case side3 => exact HC0_2.out); rintro e w13 ⟨v363, rfl, ho0, hb⟩; refine ⟨_, rfl, ?_⟩; have HO364 := zl HB ho0; replace BK357 := zk BK357 hb; replace BK358 := zk BK358 hb; replace HB := zb HB hb; (try clear hb); (try clear hb2); (try clear hk); (try clear hi); (try clear ho0); obtain ⟨hcz14_0, hcz14_1, hcz14_2, hfz14_0, hfz14_1, hfz14_2⟩ := zq3 BK358; obtain ⟨Ao15, co15, eo15⟩ := Kd.R_slice HO364.out; subst eo15))
   refine bodyPost_ret (results_ct rfl _ _ gb358 24 #[.int .i64 t360, .int .i64 t361, .slice Ao15 t362.length co15] (0, 0) _ rfl (by exact zp BK358 rfl) Try.underlying24 rfl (by kernel_rfl)) rfl ?_
   exact ⟨_, by first | rfl | (simp [errW_none, errW_some] <;> rfl) | (simp [*, errW_none, errW_some] <;> rfl), by exact zro HO364 BK358 (by decide), by exact zbo HB GE358⟩
  ·rw [if_neg c5] at H
   have c5b0 : (a1 == 1) = false := beq_eq_false_iff_ne.mpr c5
   have c5b1 : (a1 != 1) = true := bne_iff_ne.mpr c5
   by_cases c16 : a1 = 2
   ·rw [if_pos c16] at H
    have c16b0 : (a1 == 2) = true := beq_iff_eq.mpr c16
    have c16b1 : (a1 != 2) = false := bne_eq_false_iff_eq.mpr c16
    clear c16
    replace H := Option.bind_eq_some_iff.mp H
    obtain ⟨⟨t365, t366, t367⟩, A170, H⟩ := H
    replace H : (some (t365, t366, t367, 0)) = some (r1, r2, r3, r4) := H
    have A17 := Aside0.mk A170
    clear A170
    simp only [Option.some.injEq, Prod.mk.injEq] at H
    obtain ⟨rfl, rfl, rfl, rfl⟩ := H
    go_enter Try.func31, Try.ntmps31
    go_wp2_with (first | ((with_reducible refine gate_dst (N := 2) rfl ?_); refine box_event ?hg (N := 2) ?hd (cs := #[.int .i64 a0_0, .int .i64 a0_1, .slice A0_2 l0_2.length c0_2]) (t := 24) ?hr ?_; (case hd => rfl); (case hg => rfl); (case hr => first | (go_simp; done) | (go_simp; rfl)); intro gb357 hg w18 hbox hb; have GW357 := zg HB hg; have GE357 := zg HB hg; have n0_ := Aside0.mk (hbox); replace HB := zb HB hb; have BK357 := n0_; clear n0_; clear hb hbox hg) | ((with_reducible refine gate_dst (N := 4) rfl ?_); refine box_event ?hg (N := 4) ?hd (cs := #[.int .i64 0, .int .i64 0, .slice none 0 0]) (t := 24) ?hr ?_; (case hd => rfl); (case hg => rfl); (case hr => first | (go_simp; done) | (go_simp; rfl)); intro gb358 hg w19 hbox hb; have GW358 := zg HB hg; have GE358 := zg HB hg; have NB357_358 := zn BK357 hg; have NB358_357 := zn' BK357 hg; have n0_ := Aside0.mk (hbox); replace BK357 := zk BK357 hb; replace HB := zb HB hb; have BK358 := n0_; clear n0_; clear hb hbox hg; have hnb20 := NB357_358.out; have hnc20 := NB358_357.out; obtain ⟨hcz21_0, hcz21_1, hcz21_2, hfz21_0, hfz21_1, hfz21_2⟩ := zq3 BK357) | ((with_reducible refine gate_callee (f := 18) rfl ?_); refine goesL_ (some 8) rfl rfl Try.func18 (by kernel_rfl) rfl #[.agg #[.int .i64 a0_0, .int .i64 a0_1, .slice A0_2 l0_2.length c0_2]] rfl (by (try simp only [List.map_toArray, List.map_cons, List.map_nil]); first | done | rfl | (simp only [List.length_drop, List.length_take]; rfl)) ?_; (with_reducible refine (raster_Check.calls k a0_0 a0_1 _ _ l0_2 t359 _ ?side1 ?side2 A3.out).mono ?_); (case side1 => repeat (first | exact (Kd.C_below HR0_2.out HB.out) | (with_reducible refine Kd.C_alloc ?_ _) | (with_reducible refine Kd.C_drewN ?_ _) | (with_reducible refine Kd.C_drew ?_))); (case side2 => exact HC0_2.out); rintro e w22 ⟨rfl, hb⟩; refine ⟨_, rfl, ?_⟩; replace BK357 := zk BK357 hb; replace BK358 := zk BK358 hb; replace HB := zb HB hb; (try clear hb); (try clear hb2); (try clear hk); (try clear hi); obtain ⟨hcz23_0, hcz23_1, hcz23_2, hfz23_0, hfz23_1, hfz23_2⟩ := zq3 BK357) | ((with_reducible refine gate_callee (f := 40) rfl ?_); refine goesL_ (some 29) rfl rfl Try.func40 (by kernel_rfl) rfl #[.int .i64 a0_0, .int .i64 a0_1, .func (.func 52) #[] #[.pointer (some ⟨gb357, 0, none⟩)]] rfl (by (try simp only [List.map_toArray, List.map_cons, List.map_nil]); first | done | rfl | (simp only [List.length_drop, List.length_take]; rfl)) ?_; (with_reducible refine (raster_fill__raster_Flip_2.calls k a0_0 a0_1 gb357 a0_0 a0_1 A0_2 c0_2 l0_2 t365 t366 t367 _ ?side1 ?side2 ?side3 A17.out).mono ?_); (case side1 => exact zk0 BK357); (case side2 => repeat (first | exact (Kd.C_below HR0_2.out HB.out) | (with_reducible refine Kd.C_alloc ?_ _) | (with_reducible refine Kd.C_drewN ?_ _) | (with_reducible refine Kd.C_drew ?_))); (case side3 => exact HC0_2.out); rintro e w24 ⟨v368, rfl, ho0, hb⟩; refine ⟨_, rfl, ?_⟩; have HO369 := zl HB ho0; replace BK357 := zk BK357 hb; replace BK358 := zk BK358 hb; replace HB := zb HB hb; (try clear hb); (try clear hb2); (try clear hk); (try clear hi); (try clear ho0); obtain ⟨hcz25_0, hcz25_1, hcz25_2, hfz25_0, hfz25_1, hfz25_2⟩ := zq3 BK358; obtain ⟨Ao26, co26, eo26⟩ := Kd.R_slice HO369.out; subst eo26))
    refine bodyPost_ret (results_ct rfl _ _ gb358 24 #[.int .i64 t365, .int .i64 t366, .slice Ao26 t367.length co26] (0, 0) _ rfl (by exact zp BK358 rfl) Try.underlying24 rfl (by kernel_rfl)) rfl ?_
    exact ⟨_, by first | rfl | (simp [errW_none, errW_some] <;> rfl) | (simp [*, errW_none, errW_some] <;> rfl), by exact zro HO369 BK358 (by decide), by exact zbo HB GE358⟩
   ·rw [if_neg c16] at H
    have c16b0 : (a1 == 2) = false := beq_eq_false_iff_ne.mpr c16
    have c16b1 : (a1 != 2) = true := bne_iff_ne.mpr c16
    by_cases c27 : a1 = 3
    ·rw [if_pos c27] at H
     have c27b0 : (a1 == 3) = true := beq_iff_eq.mpr c27
     have c27b1 : (a1 != 3) = false := bne_eq_false_iff_eq.mpr c27
     clear c27
     replace H := Option.bind_eq_some_iff.mp H
     obtain ⟨⟨t370, t371, t372⟩, A280, H⟩ := H
     replace H : (some (t370, t371, t372, 0)) = some (r1, r2, r3, r4) := H
     have A28 := Aside0.mk A280
     clear A280
     simp only [Option.some.injEq, Prod.mk.injEq] at H
     obtain ⟨rfl, rfl, rfl, rfl⟩ := H
     go_enter Try.func31, Try.ntmps31
     go_wp2_with (first | ((with_reducible refine gate_dst (N := 2) rfl ?_); refine box_event ?hg (N := 2) ?hd (cs := #[.int .i64 a0_0, .int .i64 a0_1, .slice A0_2 l0_2.length c0_2]) (t := 24) ?hr ?_; (case hd => rfl); (case hg => rfl); (case hr => first | (go_simp; done) | (go_simp; rfl)); intro gb357 hg w29 hbox hb; have GW357 := zg HB hg; have GE357 := zg HB hg; have n0_ := Aside0.mk (hbox); replace HB := zb HB hb; have BK357 := n0_; clear n0_; clear hb hbox hg) | ((with_reducible refine gate_dst (N := 4) rfl ?_); refine box_event ?hg (N := 4) ?hd (cs := #[.int .i64 0, .int .i64 0, .slice none 0 0]) (t := 24) ?hr ?_; (case hd => rfl); (case hg => rfl); (case hr => first | (go_simp; done) | (go_simp; rfl)); intro gb358 hg w30 hbox hb; have GW358 := zg HB hg; have GE358 := zg HB hg; have NB357_358 := zn BK357 hg; have NB358_357 := zn' BK357 hg; have n0_ := Aside0.mk (hbox); replace BK357 := zk BK357 hb; replace HB := zb HB hb; have BK358 := n0_; clear n0_; clear hb hbox hg; have hnb31 := NB357_358.out; have hnc31 := NB358_357.out; obtain ⟨hcz32_0, hcz32_1, hcz32_2, hfz32_0, hfz32_1, hfz32_2⟩ := zq3 BK357) | ((with_reducible refine gate_callee (f := 18) rfl ?_); refine goesL_ (some 8) rfl rfl Try.func18 (by kernel_rfl) rfl #[.agg #[.int .i64 a0_0, .int .i64 a0_1, .slice A0_2 l0_2.length c0_2]] rfl (by (try simp only [List.map_toArray, List.map_cons, List.map_nil]); first | done | rfl | (simp only [List.length_drop, List.length_take]; rfl)) ?_; (with_reducible refine (raster_Check.calls k a0_0 a0_1 _ _ l0_2 t359 _ ?side1 ?side2 A3.out).mono ?_); (case side1 => repeat (first | exact (Kd.C_below HR0_2.out HB.out) | (with_reducible refine Kd.C_alloc ?_ _) | (with_reducible refine Kd.C_drewN ?_ _) | (with_reducible refine Kd.C_drew ?_))); (case side2 => exact HC0_2.out); rintro e w33 ⟨rfl, hb⟩; refine ⟨_, rfl, ?_⟩; replace BK357 := zk BK357 hb; replace BK358 := zk BK358 hb; replace HB := zb HB hb; (try clear hb); (try clear hb2); (try clear hk); (try clear hi); obtain ⟨hcz34_0, hcz34_1, hcz34_2, hfz34_0, hfz34_1, hfz34_2⟩ := zq3 BK357) | ((with_reducible refine gate_callee (f := 40) rfl ?_); refine goesL_ (some 37) rfl rfl Try.func40 (by kernel_rfl) rfl #[.int .i64 a0_1, .int .i64 a0_0, .func (.func 53) #[] #[.pointer (some ⟨gb357, 0, none⟩)]] rfl (by (try simp only [List.map_toArray, List.map_cons, List.map_nil]); first | done | rfl | (simp only [List.length_drop, List.length_take]; rfl)) ?_; (with_reducible refine (raster_fill__raster_Flip_3.calls k a0_1 a0_0 gb357 a0_0 a0_1 A0_2 c0_2 l0_2 t370 t371 t372 _ ?side1 ?side2 ?side3 A28.out).mono ?_); (case side1 => exact zk0 BK357); (case side2 => repeat (first | exact (Kd.C_below HR0_2.out HB.out) | (with_reducible refine Kd.C_alloc ?_ _) | (with_reducible refine Kd.C_drewN ?_ _) | (with_reducible refine Kd.C_drew ?_))); (case side3 => exact HC0_2.out); rintro e w35 ⟨v373, rfl, ho0, hb⟩; refine ⟨_, rfl, ?_⟩; have HO374 := zl HB ho0; replace BK357 := zk BK357 hb; replace BK358 := zk BK358 hb; replace HB := zb HB hb; (try clear hb); (try clear hb2); (try clear hk); (try clear hi); (try clear ho0); obtain ⟨hcz36_0, hcz36_1, hcz36_2, hfz36_0, hfz36_1, hfz36_2⟩ := zq3 BK358; obtain ⟨Ao37, co37, eo37⟩ := Kd.R_slice HO374.out; subst eo37))
     refine bodyPost_ret (results_ct rfl _ _ gb358 24 #[.int .i64 t370, .int .i64 t371, .slice Ao37 t372.length co37] (0, 0) _ rfl (by exact zp BK358 rfl) Try.underlying24 rfl (by kernel_rfl)) rfl ?_
     exact ⟨_, by first | rfl | (simp [errW_none, errW_some] <;> rfl) | (simp [*, errW_none, errW_some] <;> rfl), by exact zro HO374 BK358 (by decide), by exact zbo HB GE358⟩
    ·rw [if_neg c27] at H
     have c27b0 : (a1 == 3) = false := beq_eq_false_iff_ne.mpr c27
     have c27b1 : (a1 != 3) = true := bne_iff_ne.mpr c27
     by_cases c38 : a1 = 4
     ·rw [if_pos c38] at H
      have c38b0 : (a1 == 4) = true := beq_iff_eq.mpr c38
      have c38b1 : (a1 != 4) = false := bne_eq_false_iff_eq.mpr c38
      clear c38
      replace H := Option.bind_eq_some_iff.mp H
      obtain ⟨⟨t375, t376, t377⟩, A390, H⟩ := H
      replace H : (some (t375, t376, t377, 0)) = some (r1, r2, r3, r4) := H
      have A39 := Aside0.mk A390
      clear A390
      simp only [Option.some.injEq, Prod.mk.injEq] at H
      obtain ⟨rfl, rfl, rfl, rfl⟩ := H
      go_enter Try.func31, Try.ntmps31
      go_wp2_with (first | ((with_reducible refine gate_dst (N := 2) rfl ?_); refine box_event ?hg (N := 2) ?hd (cs := #[.int .i64 a0_0, .int .i64 a0_1, .slice A0_2 l0_2.length c0_2]) (t := 24) ?hr ?_; (case hd => rfl); (case hg => rfl); (case hr => first | (go_simp; done) | (go_simp; rfl)); intro gb357 hg w40 hbox hb; have GW357 := zg HB hg; have GE357 := zg HB hg; have n0_ := Aside0.mk (hbox); replace HB := zb HB hb; have BK357 := n0_; clear n0_; clear hb hbox hg) | ((with_reducible refine gate_dst (N := 4) rfl ?_); refine box_event ?hg (N := 4) ?hd (cs := #[.int .i64 0, .int .i64 0, .slice none 0 0]) (t := 24) ?hr ?_; (case hd => rfl); (case hg => rfl); (case hr => first | (go_simp; done) | (go_simp; rfl)); intro gb358 hg w41 hbox hb; have GW358 := zg HB hg; have GE358 := zg HB hg; have NB357_358 := zn BK357 hg; have NB358_357 := zn' BK357 hg; have n0_ := Aside0.mk (hbox); replace BK357 := zk BK357 hb; replace HB := zb HB hb; have BK358 := n0_; clear n0_; clear hb hbox hg; have hnb42 := NB357_358.out; have hnc42 := NB358_357.out; obtain ⟨hcz43_0, hcz43_1, hcz43_2, hfz43_0, hfz43_1, hfz43_2⟩ := zq3 BK357) | ((with_reducible refine gate_callee (f := 18) rfl ?_); refine goesL_ (some 8) rfl rfl Try.func18 (by kernel_rfl) rfl #[.agg #[.int .i64 a0_0, .int .i64 a0_1, .slice A0_2 l0_2.length c0_2]] rfl (by (try simp only [List.map_toArray, List.map_cons, List.map_nil]); first | done | rfl | (simp only [List.length_drop, List.length_take]; rfl)) ?_; (with_reducible refine (raster_Check.calls k a0_0 a0_1 _ _ l0_2 t359 _ ?side1 ?side2 A3.out).mono ?_); (case side1 => repeat (first | exact (Kd.C_below HR0_2.out HB.out) | (with_reducible refine Kd.C_alloc ?_ _) | (with_reducible refine Kd.C_drewN ?_ _) | (with_reducible refine Kd.C_drew ?_))); (case side2 => exact HC0_2.out); rintro e w44 ⟨rfl, hb⟩; refine ⟨_, rfl, ?_⟩; replace BK357 := zk BK357 hb; replace BK358 := zk BK358 hb; replace HB := zb HB hb; (try clear hb); (try clear hb2); (try clear hk); (try clear hi); obtain ⟨hcz45_0, hcz45_1, hcz45_2, hfz45_0, hfz45_1, hfz45_2⟩ := zq3 BK357) | ((with_reducible refine gate_callee (f := 40) rfl ?_); refine goesL_ (some 45) rfl rfl Try.func40 (by kernel_rfl) rfl #[.int .i64 a0_0, .int .i64 a0_1, .func (.func 54) #[] #[.pointer (some ⟨gb357, 0, none⟩)]] rfl (by (try simp only [List.map_toArray, List.map_cons, List.map_nil]); first | done | rfl | (simp only [List.length_drop, List.length_take]; rfl)) ?_; (with_reducible refine (raster_fill__raster_Flip_4.calls k a0_0 a0_1 gb357 a0_0 a0_1 A0_2 c0_2 l0_2 t375 t376 t377 _ ?side1 ?side2 ?side3 A39.out).mono ?_); (case side1 => exact zk0 BK357); (case side2 => repeat (first | exact (Kd.C_below HR0_2.out HB.out) | (with_reducible refine Kd.C_alloc ?_ _) | (with_reducible refine Kd.C_drewN ?_ _) | (with_reducible refine Kd.C_drew ?_))); (case side3 => exact HC0_2.out); rintro e w46 ⟨v378, rfl, ho0, hb⟩; refine ⟨_, rfl, ?_⟩; have HO379 := zl HB ho0; replace BK357 := zk BK357 hb; replace BK358 := zk BK358 hb; replace HB := zb HB hb; (try clear hb); (try clear hb2); (try clear hk); (try clear hi); (try clear ho0); obtain ⟨hcz47_0, hcz47_1, hcz47_2, hfz47_0, hfz47_1, hfz47_2⟩ := zq3 BK358; obtain ⟨Ao48, co48, eo48⟩ := Kd.R_slice HO379.out; subst eo48))
      refine bodyPost_ret (results_ct rfl _ _ gb358 24 #[.int .i64 t375, .int .i64 t376, .slice Ao48 t377.length co48] (0, 0) _ rfl (by exact zp BK358 rfl) Try.underlying24 rfl (by kernel_rfl)) rfl ?_
      exact ⟨_, by first | rfl | (simp [errW_none, errW_some] <;> rfl) | (simp [*, errW_none, errW_some] <;> rfl), by exact zro HO379 BK358 (by decide), by exact zbo HB GE358⟩
     ·rw [if_neg c38] at H
      have c38b0 : (a1 == 4) = false := beq_eq_false_iff_ne.mpr c38
      have c38b1 : (a1 != 4) = true := bne_iff_ne.mpr c38
      simp only [Option.some.injEq, Prod.mk.injEq] at H
      obtain ⟨rfl, rfl, rfl, rfl⟩ := H
      go_enter Try.func31, Try.ntmps31
      go_wp2_with (first | ((with_reducible refine gate_dst (N := 2) rfl ?_); refine box_event ?hg (N := 2) ?hd (cs := #[.int .i64 a0_0, .int .i64 a0_1, .slice A0_2 l0_2.length c0_2]) (t := 24) ?hr ?_; (case hd => rfl); (case hg => rfl); (case hr => first | (go_simp; done) | (go_simp; rfl)); intro gb357 hg w49 hbox hb; have GW357 := zg HB hg; have GE357 := zg HB hg; have n0_ := Aside0.mk (hbox); replace HB := zb HB hb; have BK357 := n0_; clear n0_; clear hb hbox hg) | ((with_reducible refine gate_dst (N := 4) rfl ?_); refine box_event ?hg (N := 4) ?hd (cs := #[.int .i64 0, .int .i64 0, .slice none 0 0]) (t := 24) ?hr ?_; (case hd => rfl); (case hg => rfl); (case hr => first | (go_simp; done) | (go_simp; rfl)); intro gb358 hg w50 hbox hb; have GW358 := zg HB hg; have GE358 := zg HB hg; have NB357_358 := zn BK357 hg; have NB358_357 := zn' BK357 hg; have n0_ := Aside0.mk (hbox); replace BK357 := zk BK357 hb; replace HB := zb HB hb; have BK358 := n0_; clear n0_; clear hb hbox hg; have hnb51 := NB357_358.out; have hnc51 := NB358_357.out; obtain ⟨hcz52_0, hcz52_1, hcz52_2, hfz52_0, hfz52_1, hfz52_2⟩ := zq3 BK357) | ((with_reducible refine gate_callee (f := 18) rfl ?_); refine goesL_ (some 8) rfl rfl Try.func18 (by kernel_rfl) rfl #[.agg #[.int .i64 a0_0, .int .i64 a0_1, .slice A0_2 l0_2.length c0_2]] rfl (by (try simp only [List.map_toArray, List.map_cons, List.map_nil]); first | done | rfl | (simp only [List.length_drop, List.length_take]; rfl)) ?_; (with_reducible refine (raster_Check.calls k a0_0 a0_1 _ _ l0_2 t359 _ ?side1 ?side2 A3.out).mono ?_); (case side1 => repeat (first | exact (Kd.C_below HR0_2.out HB.out) | (with_reducible refine Kd.C_alloc ?_ _) | (with_reducible refine Kd.C_drewN ?_ _) | (with_reducible refine Kd.C_drew ?_))); (case side2 => exact HC0_2.out); rintro e w53 ⟨rfl, hb⟩; refine ⟨_, rfl, ?_⟩; replace BK357 := zk BK357 hb; replace BK358 := zk BK358 hb; replace HB := zb HB hb; (try clear hb); (try clear hb2); (try clear hk); (try clear hi); obtain ⟨hcz54_0, hcz54_1, hcz54_2, hfz54_0, hfz54_1, hfz54_2⟩ := zq3 BK358))
      refine bodyPost_ret (results_ct rfl _ _ gb358 24 #[.int .i64 0, .int .i64 0, .slice none 0 0] (0, 0) _ rfl (by exact zp BK358 rfl) Try.underlying24 rfl (by kernel_rfl)) rfl ?_
      exact ⟨_, by first | rfl | (simp [errW_none, errW_some] <;> rfl) | (simp [*, errW_none, errW_some] <;> rfl), by first | exact Kd.R_nil _ _ _ _ _ | exact Kd.N_nil _ _ _ _ _ | exact Kd.V_nil _ _ _ _ _ | exact Kd.Q_nil _ _ _ _ _ | exact Kd.S_nil _ _ _ _ _, by exact zbo HB GE358⟩
 ·rw [if_neg c4] at H
  have c4b0 : (t359 == 0) = false := beq_eq_false_iff_ne.mpr c4
  have c4b1 : (t359 != 0) = true := bne_iff_ne.mpr c4
  simp only [Option.some.injEq, Prod.mk.injEq] at H
  obtain ⟨rfl, rfl, rfl, rfl⟩ := H
  go_enter Try.func31, Try.ntmps31
  go_wp2_with (first | ((with_reducible refine gate_dst (N := 2) rfl ?_); refine box_event ?hg (N := 2) ?hd (cs := #[.int .i64 a0_0, .int .i64 a0_1, .slice A0_2 l0_2.length c0_2]) (t := 24) ?hr ?_; (case hd => rfl); (case hg => rfl); (case hr => first | (go_simp; done) | (go_simp; rfl)); intro gb357 hg w55 hbox hb; have GW357 := zg HB hg; have GE357 := zg HB hg; have n0_ := Aside0.mk (hbox); replace HB := zb HB hb; have BK357 := n0_; clear n0_; clear hb hbox hg) | ((with_reducible refine gate_dst (N := 4) rfl ?_); refine box_event ?hg (N := 4) ?hd (cs := #[.int .i64 0, .int .i64 0, .slice none 0 0]) (t := 24) ?hr ?_; (case hd => rfl); (case hg => rfl); (case hr => first | (go_simp; done) | (go_simp; rfl)); intro gb358 hg w56 hbox hb; have GW358 := zg HB hg; have GE358 := zg HB hg; have NB357_358 := zn BK357 hg; have NB358_357 := zn' BK357 hg; have n0_ := Aside0.mk (hbox); replace BK357 := zk BK357 hb; replace HB := zb HB hb; have BK358 := n0_; clear n0_; clear hb hbox hg; have hnb57 := NB357_358.out; have hnc57 := NB358_357.out; obtain ⟨hcz58_0, hcz58_1, hcz58_2, hfz58_0, hfz58_1, hfz58_2⟩ := zq3 BK357) | ((with_reducible refine gate_callee (f := 18) rfl ?_); refine goesL_ (some 8) rfl rfl Try.func18 (by kernel_rfl) rfl #[.agg #[.int .i64 a0_0, .int .i64 a0_1, .slice A0_2 l0_2.length c0_2]] rfl (by (try simp only [List.map_toArray, List.map_cons, List.map_nil]); first | done | rfl | (simp only [List.length_drop, List.length_take]; rfl)) ?_; (with_reducible refine (raster_Check.calls k a0_0 a0_1 _ _ l0_2 t359 _ ?side1 ?side2 A3.out).mono ?_); (case side1 => repeat (first | exact (Kd.C_below HR0_2.out HB.out) | (with_reducible refine Kd.C_alloc ?_ _) | (with_reducible refine Kd.C_drewN ?_ _) | (with_reducible refine Kd.C_drew ?_))); (case side2 => exact HC0_2.out); rintro e w59 ⟨rfl, hb⟩; refine ⟨_, rfl, ?_⟩; replace BK357 := zk BK357 hb; replace BK358 := zk BK358 hb; replace HB := zb HB hb; (try clear hb); (try clear hb2); (try clear hk); (try clear hi); obtain ⟨hcz60_0, hcz60_1, hcz60_2, hfz60_0, hfz60_1, hfz60_2⟩ := zq3 BK358))
  refine bodyPost_ret (results_ct rfl _ _ gb358 24 #[.int .i64 0, .int .i64 0, .slice none 0 0] (0, 0) _ rfl (by exact zp BK358 rfl) Try.underlying24 rfl (by kernel_rfl)) rfl ?_
  exact ⟨_, by first | rfl | (simp [errW_none, errW_some] <;> rfl) | (simp [*, errW_none, errW_some] <;> rfl), by first | exact Kd.R_nil _ _ _ _ _ | exact Kd.N_nil _ _ _ _ _ | exact Kd.V_nil _ _ _ _ _ | exact Kd.Q_nil _ _ _ _ _ | exact Kd.S_nil _ _ _ _ _, by exact zbo HB GE358⟩

/-! ### raster_Box: function 33 -/
def raster_Box.l0 : Nat → Int → Int → Int → Int → List (S26) → Int → Int → Int → Int → List (S26) → Option (Int × Int × Int × Int)
 | 0, _, _, _, _, _, _, _, _, _, _ => none
 | k + 1, x3, x4, x5, x6, x20, x21, x22, x381000, x381001, x381002 => if x22 < x21 then (if 0 ≤ x22 then (if x22 < (x20.length : Int) then (if ((rd_T26 x20 x22).f3) = 0 then (raster_Box.l0 k x3 x4 x5 x6 x20 x21 (wrap64 (x22 + 1)) x381000 x381001 x381002) else (if x381000 = 0 then (none) else (raster_Box.l0 k (mn x3 (Int.tmod x22 x381000)) (mn x4 (wrap64 (Int.tdiv x22 x381000))) (mx x5 (wrap64 ((Int.tmod x22 x381000) + 1))) (mx x6 (wrap64 ((wrap64 (Int.tdiv x22 x381000)) + 1))) x20 x21 (wrap64 (x22 + 1)) x381000 x381001 x381002))) else (none)) else (none)) else (if x3 ≥ x5 then (some (0, 0, 0, 0)) else (some (x3, x4, wrap64 (x5 - x3), wrap64 (x6 - x4))))
def raster_Box.f (k : Nat) (a0_0 : Int) (a0_1 : Int) (l0_2 : List (S26)) : Option (Int × Int × Int × Int) := (raster_Check.f k a0_0 a0_1 l0_2).bind fun t382 => (if t382 = 0 then (raster_Box.l0 k a0_0 a0_1 0 0 l0_2 (l0_2.length : Int) 0 a0_0 a0_1 l0_2) else (some (0, 0, 0, 0)))
theorem raster_Box.mono_l : ∀ k, (∀ y0 y1 y2 y3 y4 y5 y6 y7 y8 y9, LeO (raster_Box.l0 k y0 y1 y2 y3 y4 y5 y6 y7 y8 y9) (raster_Box.l0 (k + 1) y0 y1 y2 y3 y4 y5 y6 y7 y8 y9))
 | 0 => fun _ _ _ _ _ _ _ _ _ _ r h => by simp [raster_Box.l0] at h
 | k + 1 => by
  have ih0 := raster_Box.mono_l k
  ·intro y0 y1 y2 y3 y4 y5 y6 y7 y8 y9
   unfold raster_Box.l0
   repeat' first
   | (with_reducible exact ih0 _ _ _ _ _ _ _ _ _ _)
   | (with_reducible exact raster_Check.mono _ _ _ _)
   | (with_reducible exact LeO.refl _)
   | (with_reducible exact LeO.none _)
   | (with_reducible refine LeO.ite ?_ ?_)
   | (with_reducible refine LeO.bind ?_ (fun _ => ?_))
   | exact ih0 _ _ _ _ _ _ _ _ _ _
   | exact raster_Check.mono _ _ _ _
   | exact LeO.none _
   | refine LeO.ite ?_ ?_
   | refine LeO.bind ?_ (fun _ => ?_)
theorem raster_Box.mono : ∀ a0 a1 a2 k, LeO (raster_Box.f k a0 a1 a2) (raster_Box.f (k + 1) a0 a1 a2) := by
 intro a0 a1 a2 k
 have ih0 := raster_Box.mono_l k
 unfold raster_Box.f
 repeat' first
   | (with_reducible exact ih0 _ _ _ _ _ _ _ _ _ _)
   | (with_reducible exact raster_Check.mono _ _ _ _)
   | (with_reducible exact LeO.refl _)
   | (with_reducible exact LeO.none _)
   | (with_reducible refine LeO.ite ?_ ?_)
   | (with_reducible refine LeO.bind ?_ (fun _ => ?_))
   | exact ih0 _ _ _ _ _ _ _ _ _ _
   | exact raster_Check.mono _ _ _ _
   | exact LeO.none _
   | refine LeO.ite ?_ ?_
   | refine LeO.bind ?_ (fun _ => ?_)
set_option maxHeartbeats 8000000 in
set_option maxRecDepth 100000 in
theorem raster_Box.calls (k : Nat) (a0_0 : Int) (a0_1 : Int) (A0_2 : Option Addr) (c0_2 : Nat) (l0_2 : List (S26)) (r1 : Int) (r2 : Int) (r3 : Int) (r4 : Int) (w : World) (hr0_2 : Kd.C k26 w A0_2 l0_2.length l0_2) (hc0_2 : l0_2.length ≤ c0_2) (h : raster_Box.f k a0_0 a0_1 l0_2 = some (r1, r2, r3, r4)) :
  Calls Try.prog 33 #[.agg #[.int .i64 a0_0, .int .i64 a0_1, .slice A0_2 l0_2.length c0_2]] w fun e w' => e = .returned (.agg #[.int .i64 r1, .int .i64 r2, .int .i64 r3, .int .i64 r4]) ∧ Below w.heap.size w w' := by
 have hu24 := Try.underlying24
 have hu37 := Try.underlying37
 have hu26 := Try.underlying26
 have HR0_2 := Aside0.mk hr0_2
 have HC0_2 := Aside0.mk hc0_2
 clear hr0_2 hc0_2
 have HB := Aside0.mk (Below.refl w.heap.size w)
 have H : ((raster_Check.f k a0_0 a0_1 l0_2).bind fun t382 => (if t382 = 0 then (raster_Box.l0 k a0_0 a0_1 0 0 l0_2 (l0_2.length : Int) 0 a0_0 a0_1 l0_2) else (some (0, 0, 0, 0)))) = some (r1, r2, r3, r4) := h
 clear h
 replace H := Option.bind_eq_some_iff.mp H
 obtain ⟨t382, A20, H⟩ := H
 replace H : (if t382 = 0 then (raster_Box.l0 k a0_0 a0_1 0 0 l0_2 (l0_2.length : Int) 0 a0_0 a0_1 l0_2) else (some (0, 0, 0, 0))) = some (r1, r2, r3, r4) := H
 have A2 := Aside0.mk A20
 clear A20
 by_cases c3 : t382 = 0
 ·rw [if_pos c3] at H
  have c3b0 : (t382 == 0) = true := beq_iff_eq.mpr c3
  have c3b1 : (t382 != 0) = false := bne_eq_false_iff_eq.mpr c3
  clear c3
  have H' := Aside0.mk H
  clear H
  go_enter Try.func33, Try.ntmps33
  go_wp2_with (first | ((with_reducible refine gate_dst (N := 1) rfl ?_); refine box_event ?hg (N := 1) ?hd (cs := #[.int .i64 a0_0, .int .i64 a0_1, .slice A0_2 l0_2.length c0_2]) (t := 24) ?hr ?_; (case hd => rfl); (case hg => rfl); (case hr => first | (go_simp; done) | (go_simp; rfl)); intro gb380 hg w4 hbox hb; have GW380 := zg HB hg; have GE380 := zg HB hg; have n0_ := Aside0.mk (hbox); replace HB := zb HB hb; have BK380 := n0_; clear n0_; clear hb hbox hg) | ((with_reducible refine gate_dst (N := 2) rfl ?_); refine box_event ?hg (N := 2) ?hd (cs := #[.int .i64 0, .int .i64 0, .int .i64 0, .int .i64 0]) (t := 37) ?hr ?_; (case hd => rfl); (case hg => rfl); (case hr => first | (go_simp; done) | (go_simp; rfl)); intro gb381 hg w5 hbox hb; have GW381 := zg HB hg; have GE381 := zg HB hg; have NB380_381 := zn BK380 hg; have NB381_380 := zn' BK380 hg; have n0_ := Aside0.mk (hbox); replace BK380 := zk BK380 hb; replace HB := zb HB hb; have BK381 := n0_; clear n0_; clear hb hbox hg; obtain ⟨hcz6_0, hcz6_1, hcz6_2, hfz6_0, hfz6_1, hfz6_2⟩ := zq3 BK380) | (go_at_call 18; (with_reducible refine (raster_Check.calls k a0_0 a0_1 _ _ l0_2 t382 _ ?side1 ?side2 A2.out).mono ?_); (case side1 => repeat (first | exact (Kd.C_below HR0_2.out HB.out) | (with_reducible refine Kd.C_alloc ?_ _) | (with_reducible refine Kd.C_drewN ?_ _) | (with_reducible refine Kd.C_drew ?_))); (case side2 => exact HC0_2.out); rintro e w7 ⟨rfl, hb⟩; replace BK380 := zk BK380 hb; replace BK381 := zk BK381 hb; replace HB := zb HB hb; (try clear hb); (try clear hb2); (try clear hk); (try clear hi); obtain ⟨hcz8_0, hcz8_1, hcz8_2, hfz8_0, hfz8_1, hfz8_2⟩ := zq3 BK380))
  repeat (go_quiet (first | ((with_reducible refine gate_dst (N := 1) rfl ?_); refine box_event ?hg (N := 1) ?hd (cs := #[.int .i64 a0_0, .int .i64 a0_1, .slice A0_2 l0_2.length c0_2]) (t := 24) ?hr ?_; (case hd => rfl); (case hg => rfl); (case hr => first | (go_simp; done) | (go_simp; rfl)); intro gb380 hg w4 hbox hb; have GW380 := zg HB hg; have GE380 := zg HB hg; have n0_ := Aside0.mk (hbox); replace HB := zb HB hb; have BK380 := n0_; clear n0_; clear hb hbox hg) | ((with_reducible refine gate_dst (N := 2) rfl ?_); refine box_event ?hg (N := 2) ?hd (cs := #[.int .i64 0, .int .i64 0, .int .i64 0, .int .i64 0]) (t := 37) ?hr ?_; (case hd => rfl); (case hg => rfl); (case hr => first | (go_simp; done) | (go_simp; rfl)); intro gb381 hg w5 hbox hb; have GW381 := zg HB hg; have GE381 := zg HB hg; have NB380_381 := zn BK380 hg; have NB381_380 := zn' BK380 hg; have n0_ := Aside0.mk (hbox); replace BK380 := zk BK380 hb; replace HB := zb HB hb; have BK381 := n0_; clear n0_; clear hb hbox hg; obtain ⟨hcz6_0, hcz6_1, hcz6_2, hfz6_0, hfz6_1, hfz6_2⟩ := zq3 BK380) | (go_at_call 18; (with_reducible refine (raster_Check.calls k a0_0 a0_1 _ _ l0_2 t382 _ ?side1 ?side2 A2.out).mono ?_); (case side1 => repeat (first | exact (Kd.C_below HR0_2.out HB.out) | (with_reducible refine Kd.C_alloc ?_ _) | (with_reducible refine Kd.C_drewN ?_ _) | (with_reducible refine Kd.C_drew ?_))); (case side2 => exact HC0_2.out); rintro e w7 ⟨rfl, hb⟩; replace BK380 := zk BK380 hb; replace BK381 := zk BK381 hb; replace HB := zb HB hb; (try clear hb); (try clear hb2); (try clear hk); (try clear hi); obtain ⟨hcz8_0, hcz8_1, hcz8_2, hfz8_0, hfz8_1, hfz8_2⟩ := zq3 BK380)); try go_wp2_with (first | ((with_reducible refine gate_dst (N := 1) rfl ?_); refine box_event ?hg (N := 1) ?hd (cs := #[.int .i64 a0_0, .int .i64 a0_1, .slice A0_2 l0_2.length c0_2]) (t := 24) ?hr ?_; (case hd => rfl); (case hg => rfl); (case hr => first | (go_simp; done) | (go_simp; rfl)); intro gb380 hg w4 hbox hb; have GW380 := zg HB hg; have GE380 := zg HB hg; have n0_ := Aside0.mk (hbox); replace HB := zb HB hb; have BK380 := n0_; clear n0_; clear hb hbox hg) | ((with_reducible refine gate_dst (N := 2) rfl ?_); refine box_event ?hg (N := 2) ?hd (cs := #[.int .i64 0, .int .i64 0, .int .i64 0, .int .i64 0]) (t := 37) ?hr ?_; (case hd => rfl); (case hg => rfl); (case hr => first | (go_simp; done) | (go_simp; rfl)); intro gb381 hg w5 hbox hb; have GW381 := zg HB hg; have GE381 := zg HB hg; have NB380_381 := zn BK380 hg; have NB381_380 := zn' BK380 hg; have n0_ := Aside0.mk (hbox); replace BK380 := zk BK380 hb; replace HB := zb HB hb; have BK381 := n0_; clear n0_; clear hb hbox hg; obtain ⟨hcz6_0, hcz6_1, hcz6_2, hfz6_0, hfz6_1, hfz6_2⟩ := zq3 BK380) | (go_at_call 18; (with_reducible refine (raster_Check.calls k a0_0 a0_1 _ _ l0_2 t382 _ ?side1 ?side2 A2.out).mono ?_); (case side1 => repeat (first | exact (Kd.C_below HR0_2.out HB.out) | (with_reducible refine Kd.C_alloc ?_ _) | (with_reducible refine Kd.C_drewN ?_ _) | (with_reducible refine Kd.C_drew ?_))); (case side2 => exact HC0_2.out); rintro e w7 ⟨rfl, hb⟩; replace BK380 := zk BK380 hb; replace BK381 := zk BK381 hb; replace HB := zb HB hb; (try clear hb); (try clear hb2); (try clear hk); (try clear hi); obtain ⟨hcz8_0, hcz8_1, hcz8_2, hfz8_0, hfz8_1, hfz8_2⟩ := zq3 BK380)))
  (try simp only [Act.put, sA, sB, sC])
  go_loopg [3, 4, 5, 6, 22] k (fun kq v3 v4 v5 v6 v22 w' => ∃ (x3_1 : Int) (x4_1 : Int) (x5_1 : Int) (x6_1 : Int) (x22_1 : Int), v3 = .int .i64 x3_1 ∧ v4 = .int .i64 x4_1 ∧ v5 = .int .i64 x5_1 ∧ v6 = .int .i64 x6_1 ∧ v22 = .int .i64 x22_1 ∧ Aside0 (raster_Box.l0 kq x3_1 x4_1 x5_1 x6_1 l0_2 (l0_2.length : Int) x22_1 a0_0 a0_1 l0_2 = some (r1, r2, r3, r4)) ∧ Aside0 (kq ≤ k) ∧ Aside0 (w'.heap[gb380]? = some (.cells #[.int .i64 a0_0, .int .i64 a0_1, (.slice A0_2 l0_2.length c0_2)] 24 (0, 0))) ∧ Aside0 (w'.heap[gb381]? = some (.cells #[.int .i64 0, .int .i64 0, .int .i64 0, .int .i64 0] 37 (0, 0))) ∧ Aside0 (Below w.heap.size w w'))
  case atStart => exact ⟨(a0_0), (a0_1), (0), (0), (0), (by first | rfl | (simp; done) | (simp [*]; done)), (by first | rfl | (simp; done) | (simp [*]; done)), (by first | rfl | (simp; done) | (simp [*]; done)), (by first | rfl | (simp; done) | (simp [*]; done)), (by first | rfl | (simp; done) | (simp [*]; done)), H', ⟨Nat.le_refl _⟩, ⟨by exact zk0 BK380⟩, ⟨by exact zk0 BK381⟩, ⟨by exact zb0 HB⟩⟩
  case round =>
   clear H'
   try clear p2
   try clear c3
   try clear c3b0
   try clear c3b1
   try clear q3
   try clear hcz6_0
   try clear hcz6_1
   try clear hcz6_2
   try clear hcz8_0
   try clear hcz8_1
   try clear hcz8_2
   try clear hfz6_0
   try clear hfz6_1
   try clear hfz6_2
   try clear hfz8_0
   try clear hfz8_1
   try clear hfz8_2
   obtain ⟨x3_1, x4_1, x5_1, x6_1, x22_1, rfl, rfl, rfl, rfl, rfl, HA, HK1, BK380, BK381, HB⟩ := hrel
   cases gk with
   | zero => exact absurd HA.out (by simp [raster_Box.l0])
   | succ k1 =>
    have H := HA.out
    clear HA
    simp only [raster_Box.l0] at H
    by_cases c9 : x22_1 < (l0_2.length : Int)
    ·rw [if_pos c9] at H
     have c9b0 : decide (x22_1 < (l0_2.length : Int)) = true := decide_eq_true c9
     clear c9
     by_cases c10 : 0 ≤ x22_1
     ·rw [if_pos c10] at H
      have c10b0 : decide (0 ≤ x22_1) = true := decide_eq_true c10
      clear c10
      by_cases c11 : x22_1 < (l0_2.length : Int)
      ·rw [if_pos c11] at H
       have c11b0 : decide (x22_1 < (l0_2.length : Int)) = true := decide_eq_true c11
       clear c11
       by_cases c12 : ((rd_T26 l0_2 x22_1).f3) = 0
       ·rw [if_pos c12] at H
        have c12b0 : (((rd_T26 l0_2 x22_1).f3) == 0) = true := beq_iff_eq.mpr c12
        have c12b1 : (((rd_T26 l0_2 x22_1).f3) != 0) = false := bne_eq_false_iff_eq.mpr c12
        clear c12
        have H' := Aside0.mk H
        clear H
        have p383 : 0 ≤ (x22_1 : Int) := of_decide_eq_true (by first | (with_reducible assumption) | assumption)
        have q383 : x22_1 < (l0_2.length : Int) := of_decide_eq_true (by first | (with_reducible assumption) | assumption)
        obtain ⟨ad383, e383, hx383_0, hx383_1, hx383_2, hx383_3⟩ := at_T26 HR0_2.out x22_1 p383 q383
        cases e383
        replace hx383_0 := (HB.out.cell (World.block_lt_of_cell? w _ hx383_0)).trans hx383_0
        replace hx383_1 := (HB.out.cell (World.block_lt_of_cell? w _ hx383_1)).trans hx383_1
        replace hx383_2 := (HB.out.cell (World.block_lt_of_cell? w _ hx383_2)).trans hx383_2
        replace hx383_3 := (HB.out.cell (World.block_lt_of_cell? w _ hx383_3)).trans hx383_3
        replace p383 := eq_true p383
        replace q383 := eq_true q383
        go_wp2_with (first | ((with_reducible refine gate_dst (N := 8) rfl ?_); refine box_event ?hg (N := 8) ?hd (cs := #[.int .i64 0, .int .i64 0, .int .i64 0, .int .i64 0]) (t := 26) ?hr ?_; (case hd => rfl); (case hg => rfl); (case hr => first | (go_simp; done) | (go_simp; rfl)); intro gb384 hg w13 hbox hb; have GW384 := zg HB hg; have GE384 := zg HB hg; have NB380_384 := zn BK380 hg; have NB384_380 := zn' BK380 hg; have NB381_384 := zn BK381 hg; have NB384_381 := zn' BK381 hg; have n0_ := Aside0.mk (hbox); replace BK380 := zk BK380 hb; replace BK381 := zk BK381 hb; replace HB := zb HB hb; have BK384 := n0_; clear n0_; clear hb hbox hg; have hnb14 := NB384_380.out; have hnc14 := NB380_384.out; have hnb15 := NB384_381.out; have hnc15 := NB381_384.out; obtain ⟨hcz16_0, hcz16_1, hcz16_2, hcz16_3, hfz16_0, hfz16_1, hfz16_2, hfz16_3⟩ := zq4 BK384))
        repeat (go_quiet (first | ((with_reducible refine gate_dst (N := 8) rfl ?_); refine box_event ?hg (N := 8) ?hd (cs := #[.int .i64 0, .int .i64 0, .int .i64 0, .int .i64 0]) (t := 26) ?hr ?_; (case hd => rfl); (case hg => rfl); (case hr => first | (go_simp; done) | (go_simp; rfl)); intro gb384 hg w13 hbox hb; have GW384 := zg HB hg; have GE384 := zg HB hg; have NB380_384 := zn BK380 hg; have NB384_380 := zn' BK380 hg; have NB381_384 := zn BK381 hg; have NB384_381 := zn' BK381 hg; have n0_ := Aside0.mk (hbox); replace BK380 := zk BK380 hb; replace BK381 := zk BK381 hb; replace HB := zb HB hb; have BK384 := n0_; clear n0_; clear hb hbox hg; have hnb14 := NB384_380.out; have hnc14 := NB380_384.out; have hnb15 := NB384_381.out; have hnc15 := NB381_384.out; obtain ⟨hcz16_0, hcz16_1, hcz16_2, hcz16_3, hfz16_0, hfz16_1, hfz16_2, hfz16_3⟩ := zq4 BK384)); try go_wp2_with (first | ((with_reducible refine gate_dst (N := 8) rfl ?_); refine box_event ?hg (N := 8) ?hd (cs := #[.int .i64 0, .int .i64 0, .int .i64 0, .int .i64 0]) (t := 26) ?hr ?_; (case hd => rfl); (case hg => rfl); (case hr => first | (go_simp; done) | (go_simp; rfl)); intro gb384 hg w13 hbox hb; have GW384 := zg HB hg; have GE384 := zg HB hg; have NB380_384 := zn BK380 hg; have NB384_380 := zn' BK380 hg; have NB381_384 := zn BK381 hg; have NB384_381 := zn' BK381 hg; have n0_ := Aside0.mk (hbox); replace BK380 := zk BK380 hb; replace BK381 := zk BK381 hb; replace HB := zb HB hb; have BK384 := n0_; clear n0_; clear hb hbox hg; have hnb14 := NB384_380.out; have hnc14 := NB380_384.out; have hnb15 := NB384_381.out; have hnc15 := NB381_384.out; obtain ⟨hcz16_0, hcz16_1, hcz16_2, hcz16_3, hfz16_0, hfz16_1, hfz16_2, hfz16_3⟩ := zq4 BK384)))
        go_roundg k1
        case measure => have := HK1.out; omega
        case rel => exact ⟨(x3_1), (x4_1), (x5_1), (x6_1), (wrap64 (x22_1 + 1)), (by first | rfl | (simp; done) | (simp [*]; done)), (by first | rfl | (simp; done) | (simp [*]; done)), (by first | rfl | (simp; done) | (simp [*]; done)), (by first | rfl | (simp; done) | (simp [*]; done)), (by first | rfl | (simp; done) | (simp [*]; done)), H', ⟨by have := HK1.out; omega⟩, ⟨by exact zf BK380 NB380_384⟩, ⟨by exact zf BK381 NB381_384⟩, ⟨by exact zbo HB GE384⟩⟩
       ·rw [if_neg c12] at H
        have c12b0 : (((rd_T26 l0_2 x22_1).f3) == 0) = false := beq_eq_false_iff_ne.mpr c12
        have c12b1 : (((rd_T26 l0_2 x22_1).f3) != 0) = true := bne_iff_ne.mpr c12
        by_cases c17 : a0_0 = 0
        ·rw [if_pos c17] at H
         exact absurd H (by simp)
        ·rw [if_neg c17] at H
         have c17b0 : (a0_0 == 0) = false := beq_eq_false_iff_ne.mpr c17
         have c17b1 : (a0_0 != 0) = true := bne_iff_ne.mpr c17
         obtain ⟨ji18, hji18⟩ : ∃ j_ : Int, (mn x3_1 (Int.tmod x22_1 a0_0)) = j_ := ⟨_, rfl⟩
         replace H : (raster_Box.l0 k1 ji18 (mn x4_1 (wrap64 (Int.tdiv x22_1 a0_0))) (mx x5_1 (wrap64 ((Int.tmod x22_1 a0_0) + 1))) (mx x6_1 (wrap64 ((wrap64 (Int.tdiv x22_1 a0_0)) + 1))) l0_2 (l0_2.length : Int) (wrap64 (x22_1 + 1)) a0_0 a0_1 l0_2) = some (r1, r2, r3, r4) := by first | (rw [hji18] at H; exact H) | (simp only [hji18] at H ⊢; exact H)
         have hji18_ : (if (Int.tmod x22_1 a0_0) < x3_1 then (Int.tmod x22_1 a0_0) else x3_1) = ji18 := hji18
         obtain ⟨ji19, hji19⟩ : ∃ j_ : Int, (mn x4_1 (wrap64 (Int.tdiv x22_1 a0_0))) = j_ := ⟨_, rfl⟩
         replace H : (raster_Box.l0 k1 ji18 ji19 (mx x5_1 (wrap64 ((Int.tmod x22_1 a0_0) + 1))) (mx x6_1 (wrap64 ((wrap64 (Int.tdiv x22_1 a0_0)) + 1))) l0_2 (l0_2.length : Int) (wrap64 (x22_1 + 1)) a0_0 a0_1 l0_2) = some (r1, r2, r3, r4) := by first | (rw [hji19] at H; exact H) | (simp only [hji19] at H ⊢; exact H)
         have hji19_ : (if (wrap64 (Int.tdiv x22_1 a0_0)) < x4_1 then (wrap64 (Int.tdiv x22_1 a0_0)) else x4_1) = ji19 := hji19
         obtain ⟨ji20, hji20⟩ : ∃ j_ : Int, (mx x5_1 (wrap64 ((Int.tmod x22_1 a0_0) + 1))) = j_ := ⟨_, rfl⟩
         replace H : (raster_Box.l0 k1 ji18 ji19 ji20 (mx x6_1 (wrap64 ((wrap64 (Int.tdiv x22_1 a0_0)) + 1))) l0_2 (l0_2.length : Int) (wrap64 (x22_1 + 1)) a0_0 a0_1 l0_2) = some (r1, r2, r3, r4) := by first | (rw [hji20] at H; exact H) | (simp only [hji20] at H ⊢; exact H)
         have hji20_ : (if x5_1 < (wrap64 ((Int.tmod x22_1 a0_0) + 1)) then (wrap64 ((Int.tmod x22_1 a0_0) + 1)) else x5_1) = ji20 := hji20
         obtain ⟨ji21, hji21⟩ : ∃ j_ : Int, (mx x6_1 (wrap64 ((wrap64 (Int.tdiv x22_1 a0_0)) + 1))) = j_ := ⟨_, rfl⟩
         replace H : (raster_Box.l0 k1 ji18 ji19 ji20 ji21 l0_2 (l0_2.length : Int) (wrap64 (x22_1 + 1)) a0_0 a0_1 l0_2) = some (r1, r2, r3, r4) := by first | (rw [hji21] at H; exact H) | (simp only [hji21] at H ⊢; exact H)
         have hji21_ : (if x6_1 < (wrap64 ((wrap64 (Int.tdiv x22_1 a0_0)) + 1)) then (wrap64 ((wrap64 (Int.tdiv x22_1 a0_0)) + 1)) else x6_1) = ji21 := hji21
         have H' := Aside0.mk H
         clear H
         have p383 : 0 ≤ (x22_1 : Int) := of_decide_eq_true (by first | (with_reducible assumption) | assumption)
         have q383 : x22_1 < (l0_2.length : Int) := of_decide_eq_true (by first | (with_reducible assumption) | assumption)
         obtain ⟨ad383, e383, hx383_0, hx383_1, hx383_2, hx383_3⟩ := at_T26 HR0_2.out x22_1 p383 q383
         cases e383
         replace hx383_0 := (HB.out.cell (World.block_lt_of_cell? w _ hx383_0)).trans hx383_0
         replace hx383_1 := (HB.out.cell (World.block_lt_of_cell? w _ hx383_1)).trans hx383_1
         replace hx383_2 := (HB.out.cell (World.block_lt_of_cell? w _ hx383_2)).trans hx383_2
         replace hx383_3 := (HB.out.cell (World.block_lt_of_cell? w _ hx383_3)).trans hx383_3
         replace p383 := eq_true p383
         replace q383 := eq_true q383
         go_wp2_with (first | ((with_reducible refine gate_dst (N := 8) rfl ?_); refine box_event ?hg (N := 8) ?hd (cs := #[.int .i64 0, .int .i64 0, .int .i64 0, .int .i64 0]) (t := 26) ?hr ?_; (case hd => rfl); (case hg => rfl); (case hr => first | (go_simp; done) | (go_simp; rfl)); intro gb384 hg w22 hbox hb; have GW384 := zg HB hg; have GE384 := zg HB hg; have NB380_384 := zn BK380 hg; have NB384_380 := zn' BK380 hg; have NB381_384 := zn BK381 hg; have NB384_381 := zn' BK381 hg; have n0_ := Aside0.mk (hbox); replace BK380 := zk BK380 hb; replace BK381 := zk BK381 hb; replace HB := zb HB hb; have BK384 := n0_; clear n0_; clear hb hbox hg; have hnb23 := NB384_380.out; have hnc23 := NB380_384.out; have hnb24 := NB384_381.out; have hnc24 := NB381_384.out; obtain ⟨hcz25_0, hcz25_1, hcz25_2, hcz25_3, hfz25_0, hfz25_1, hfz25_2, hfz25_3⟩ := zq4 BK384; have hnb26 := NB380_381.out; have hnc26 := NB381_380.out; obtain ⟨hcz27_0, hcz27_1, hcz27_2, hfz27_0, hfz27_1, hfz27_2⟩ := zq3 BK380))
         repeat (go_quiet (first | ((with_reducible refine gate_dst (N := 8) rfl ?_); refine box_event ?hg (N := 8) ?hd (cs := #[.int .i64 0, .int .i64 0, .int .i64 0, .int .i64 0]) (t := 26) ?hr ?_; (case hd => rfl); (case hg => rfl); (case hr => first | (go_simp; done) | (go_simp; rfl)); intro gb384 hg w22 hbox hb; have GW384 := zg HB hg; have GE384 := zg HB hg; have NB380_384 := zn BK380 hg; have NB384_380 := zn' BK380 hg; have NB381_384 := zn BK381 hg; have NB384_381 := zn' BK381 hg; have n0_ := Aside0.mk (hbox); replace BK380 := zk BK380 hb; replace BK381 := zk BK381 hb; replace HB := zb HB hb; have BK384 := n0_; clear n0_; clear hb hbox hg; have hnb23 := NB384_380.out; have hnc23 := NB380_384.out; have hnb24 := NB384_381.out; have hnc24 := NB381_384.out; obtain ⟨hcz25_0, hcz25_1, hcz25_2, hcz25_3, hfz25_0, hfz25_1, hfz25_2, hfz25_3⟩ := zq4 BK384; have hnb26 := NB380_381.out; have hnc26 := NB381_380.out; obtain ⟨hcz27_0, hcz27_1, hcz27_2, hfz27_0, hfz27_1, hfz27_2⟩ := zq3 BK380)); try go_wp2_with (first | ((with_reducible refine gate_dst (N := 8) rfl ?_); refine box_event ?hg (N := 8) ?hd (cs := #[.int .i64 0, .int .i64 0, .int .i64 0, .int .i64 0]) (t := 26) ?hr ?_; (case hd => rfl); (case hg => rfl); (case hr => first | (go_simp; done) | (go_simp; rfl)); intro gb384 hg w22 hbox hb; have GW384 := zg HB hg; have GE384 := zg HB hg; have NB380_384 := zn BK380 hg; have NB384_380 := zn' BK380 hg; have NB381_384 := zn BK381 hg; have NB384_381 := zn' BK381 hg; have n0_ := Aside0.mk (hbox); replace BK380 := zk BK380 hb; replace BK381 := zk BK381 hb; replace HB := zb HB hb; have BK384 := n0_; clear n0_; clear hb hbox hg; have hnb23 := NB384_380.out; have hnc23 := NB380_384.out; have hnb24 := NB384_381.out; have hnc24 := NB381_384.out; obtain ⟨hcz25_0, hcz25_1, hcz25_2, hcz25_3, hfz25_0, hfz25_1, hfz25_2, hfz25_3⟩ := zq4 BK384; have hnb26 := NB380_381.out; have hnc26 := NB381_380.out; obtain ⟨hcz27_0, hcz27_1, hcz27_2, hfz27_0, hfz27_1, hfz27_2⟩ := zq3 BK380)))
         first | go_roundg k1 | ((try subst hji21); (try subst hji20); (try subst hji19); (try subst hji18); go_roundg k1)
         case measure => have := HK1.out; omega
         case rel => first | (exact ⟨(ji18), (ji19), (ji20), (ji21), (wrap64 (x22_1 + 1)), (by first | rfl | (simp; done) | (simp only [← hji18] <;> (first | rfl | simp)) | (simp [*]; done)), (by first | rfl | (simp; done) | (simp only [← hji19] <;> (first | rfl | simp)) | (simp [*]; done)), (by first | rfl | (simp; done) | (simp only [← hji20] <;> (first | rfl | simp)) | (simp [*]; done)), (by first | rfl | (simp; done) | (simp only [← hji21] <;> (first | rfl | simp)) | (simp [*]; done)), (by first | rfl | (simp; done) | (simp [*]; done)), H', ⟨by have := HK1.out; omega⟩, ⟨by exact zf BK380 NB380_384⟩, ⟨by exact zf BK381 NB381_384⟩, ⟨by exact zbo HB GE384⟩⟩) | (exact ⟨((mn x3_1 (Int.tmod x22_1 a0_0))), ((mn x4_1 (wrap64 (Int.tdiv x22_1 a0_0)))), ((mx x5_1 (wrap64 ((Int.tmod x22_1 a0_0) + 1)))), ((mx x6_1 (wrap64 ((wrap64 (Int.tdiv x22_1 a0_0)) + 1)))), (wrap64 (x22_1 + 1)), (by first | rfl | (simp; done) | (simp only [← hji18] <;> (first | rfl | simp)) | (simp [*]; done)), (by first | rfl | (simp; done) | (simp only [← hji19] <;> (first | rfl | simp)) | (simp [*]; done)), (by first | rfl | (simp; done) | (simp only [← hji20] <;> (first | rfl | simp)) | (simp [*]; done)), (by first | rfl | (simp; done) | (simp only [← hji21] <;> (first | rfl | simp)) | (simp [*]; done)), (by first | rfl | (simp; done) | (simp [*]; done)), H', ⟨by have := HK1.out; omega⟩, ⟨by exact zf BK380 NB380_384⟩, ⟨by exact zf BK381 NB381_384⟩, ⟨by exact zbo HB GE384⟩⟩)
      ·rw [if_neg c11] at H
       exact absurd H (by simp)
     ·rw [if_neg c10] at H
      exact absurd H (by simp)
    ·rw [if_neg c9] at H
     have c9b0 : decide (x22_1 < (l0_2.length : Int)) = false := decide_eq_false c9
     clear c9
     by_cases c28 : x3_1 ≥ x5_1
     ·rw [if_pos c28] at H
      have c28b0 : decide (x5_1 ≤ x3_1) = true := decide_eq_true c28
      clear c28
      simp only [Option.some.injEq, Prod.mk.injEq] at H
      obtain ⟨rfl, rfl, rfl, rfl⟩ := H
      have hnb29 := NB381_380.out
      have hnc29 := NB380_381.out
      obtain ⟨hcz30_0, hcz30_1, hcz30_2, hcz30_3, hfz30_0, hfz30_1, hfz30_2, hfz30_3⟩ := zq4 BK381
      go_wp2
      repeat (go_quiet (fail); try go_wp2)
      refine bodyPost_ret (results_cell_row rfl _ _ gb381 37 #[.int .i64 0, .int .i64 0, .int .i64 0, .int .i64 0] (0, 0) _ rfl (by exact zp BK381 rfl) Try.underlying37 rfl (by kernel_rfl)) rfl ?_
      exact ⟨by first | rfl | (simp [errW_none, errW_some] <;> rfl) | (simp [*, errW_none, errW_some] <;> rfl), by exact zbo HB GE381⟩
     ·rw [if_neg c28] at H
      have c28b0 : decide (x5_1 ≤ x3_1) = false := decide_eq_false c28
      clear c28
      simp only [Option.some.injEq, Prod.mk.injEq] at H
      obtain ⟨rfl, rfl, rfl, rfl⟩ := H
      have hnb31 := NB381_380.out
      have hnc31 := NB380_381.out
      obtain ⟨hcz32_0, hcz32_1, hcz32_2, hcz32_3, hfz32_0, hfz32_1, hfz32_2, hfz32_3⟩ := zq4 BK381
      go_wp2
      repeat (go_quiet (fail); try go_wp2)
      refine bodyPost_ret (results_cell_row rfl _ _ gb381 37 #[.int .i64 x3_1, .int .i64 x4_1, .int .i64 (wrap64 (x5_1 - x3_1)), .int .i64 (wrap64 (x6_1 - x4_1))] (0, 0) _ rfl (by exact zp BK381 rfl) Try.underlying37 rfl (by kernel_rfl)) rfl ?_
      exact ⟨by first | rfl | (simp [errW_none, errW_some] <;> rfl) | (simp [*, errW_none, errW_some] <;> rfl), by exact zbo HB GE381⟩
 ·rw [if_neg c3] at H
  have c3b0 : (t382 == 0) = false := beq_eq_false_iff_ne.mpr c3
  have c3b1 : (t382 != 0) = true := bne_iff_ne.mpr c3
  simp only [Option.some.injEq, Prod.mk.injEq] at H
  obtain ⟨rfl, rfl, rfl, rfl⟩ := H
  go_enter Try.func33, Try.ntmps33
  go_wp2_with (first | ((with_reducible refine gate_dst (N := 1) rfl ?_); refine box_event ?hg (N := 1) ?hd (cs := #[.int .i64 a0_0, .int .i64 a0_1, .slice A0_2 l0_2.length c0_2]) (t := 24) ?hr ?_; (case hd => rfl); (case hg => rfl); (case hr => first | (go_simp; done) | (go_simp; rfl)); intro gb380 hg w33 hbox hb; have GW380 := zg HB hg; have GE380 := zg HB hg; have n0_ := Aside0.mk (hbox); replace HB := zb HB hb; have BK380 := n0_; clear n0_; clear hb hbox hg) | ((with_reducible refine gate_dst (N := 2) rfl ?_); refine box_event ?hg (N := 2) ?hd (cs := #[.int .i64 0, .int .i64 0, .int .i64 0, .int .i64 0]) (t := 37) ?hr ?_; (case hd => rfl); (case hg => rfl); (case hr => first | (go_simp; done) | (go_simp; rfl)); intro gb381 hg w34 hbox hb; have GW381 := zg HB hg; have GE381 := zg HB hg; have NB380_381 := zn BK380 hg; have NB381_380 := zn' BK380 hg; have n0_ := Aside0.mk (hbox); replace BK380 := zk BK380 hb; replace HB := zb HB hb; have BK381 := n0_; clear n0_; clear hb hbox hg; have hnb35 := NB380_381.out; have hnc35 := NB381_380.out; obtain ⟨hcz36_0, hcz36_1, hcz36_2, hfz36_0, hfz36_1, hfz36_2⟩ := zq3 BK380) | (go_at_call 18; (with_reducible refine (raster_Check.calls k a0_0 a0_1 _ _ l0_2 t382 _ ?side1 ?side2 A2.out).mono ?_); (case side1 => repeat (first | exact (Kd.C_below HR0_2.out HB.out) | (with_reducible refine Kd.C_alloc ?_ _) | (with_reducible refine Kd.C_drewN ?_ _) | (with_reducible refine Kd.C_drew ?_))); (case side2 => exact HC0_2.out); rintro e w37 ⟨rfl, hb⟩; replace BK380 := zk BK380 hb; replace BK381 := zk BK381 hb; replace HB := zb HB hb; (try clear hb); (try clear hb2); (try clear hk); (try clear hi); obtain ⟨hcz38_0, hcz38_1, hcz38_2, hcz38_3, hfz38_0, hfz38_1, hfz38_2, hfz38_3⟩ := zq4 BK381))
  repeat (go_quiet (first | ((with_reducible refine gate_dst (N := 1) rfl ?_); refine box_event ?hg (N := 1) ?hd (cs := #[.int .i64 a0_0, .int .i64 a0_1, .slice A0_2 l0_2.length c0_2]) (t := 24) ?hr ?_; (case hd => rfl); (case hg => rfl); (case hr => first | (go_simp; done) | (go_simp; rfl)); intro gb380 hg w33 hbox hb; have GW380 := zg HB hg; have GE380 := zg HB hg; have n0_ := Aside0.mk (hbox); replace HB := zb HB hb; have BK380 := n0_; clear n0_; clear hb hbox hg) | ((with_reducible refine gate_dst (N := 2) rfl ?_); refine box_event ?hg (N := 2) ?hd (cs := #[.int .i64 0, .int .i64 0, .int .i64 0, .int .i64 0]) (t := 37) ?hr ?_; (case hd => rfl); (case hg => rfl); (case hr => first | (go_simp; done) | (go_simp; rfl)); intro gb381 hg w34 hbox hb; have GW381 := zg HB hg; have GE381 := zg HB hg; have NB380_381 := zn BK380 hg; have NB381_380 := zn' BK380 hg; have n0_ := Aside0.mk (hbox); replace BK380 := zk BK380 hb; replace HB := zb HB hb; have BK381 := n0_; clear n0_; clear hb hbox hg; have hnb35 := NB380_381.out; have hnc35 := NB381_380.out; obtain ⟨hcz36_0, hcz36_1, hcz36_2, hfz36_0, hfz36_1, hfz36_2⟩ := zq3 BK380) | (go_at_call 18; (with_reducible refine (raster_Check.calls k a0_0 a0_1 _ _ l0_2 t382 _ ?side1 ?side2 A2.out).mono ?_); (case side1 => repeat (first | exact (Kd.C_below HR0_2.out HB.out) | (with_reducible refine Kd.C_alloc ?_ _) | (with_reducible refine Kd.C_drewN ?_ _) | (with_reducible refine Kd.C_drew ?_))); (case side2 => exact HC0_2.out); rintro e w37 ⟨rfl, hb⟩; replace BK380 := zk BK380 hb; replace BK381 := zk BK381 hb; replace HB := zb HB hb; (try clear hb); (try clear hb2); (try clear hk); (try clear hi); obtain ⟨hcz38_0, hcz38_1, hcz38_2, hcz38_3, hfz38_0, hfz38_1, hfz38_2, hfz38_3⟩ := zq4 BK381)); try go_wp2_with (first | ((with_reducible refine gate_dst (N := 1) rfl ?_); refine box_event ?hg (N := 1) ?hd (cs := #[.int .i64 a0_0, .int .i64 a0_1, .slice A0_2 l0_2.length c0_2]) (t := 24) ?hr ?_; (case hd => rfl); (case hg => rfl); (case hr => first | (go_simp; done) | (go_simp; rfl)); intro gb380 hg w33 hbox hb; have GW380 := zg HB hg; have GE380 := zg HB hg; have n0_ := Aside0.mk (hbox); replace HB := zb HB hb; have BK380 := n0_; clear n0_; clear hb hbox hg) | ((with_reducible refine gate_dst (N := 2) rfl ?_); refine box_event ?hg (N := 2) ?hd (cs := #[.int .i64 0, .int .i64 0, .int .i64 0, .int .i64 0]) (t := 37) ?hr ?_; (case hd => rfl); (case hg => rfl); (case hr => first | (go_simp; done) | (go_simp; rfl)); intro gb381 hg w34 hbox hb; have GW381 := zg HB hg; have GE381 := zg HB hg; have NB380_381 := zn BK380 hg; have NB381_380 := zn' BK380 hg; have n0_ := Aside0.mk (hbox); replace BK380 := zk BK380 hb; replace HB := zb HB hb; have BK381 := n0_; clear n0_; clear hb hbox hg; have hnb35 := NB380_381.out; have hnc35 := NB381_380.out; obtain ⟨hcz36_0, hcz36_1, hcz36_2, hfz36_0, hfz36_1, hfz36_2⟩ := zq3 BK380) | (go_at_call 18; (with_reducible refine (raster_Check.calls k a0_0 a0_1 _ _ l0_2 t382 _ ?side1 ?side2 A2.out).mono ?_); (case side1 => repeat (first | exact (Kd.C_below HR0_2.out HB.out) | (with_reducible refine Kd.C_alloc ?_ _) | (with_reducible refine Kd.C_drewN ?_ _) | (with_reducible refine Kd.C_drew ?_))); (case side2 => exact HC0_2.out); rintro e w37 ⟨rfl, hb⟩; replace BK380 := zk BK380 hb; replace BK381 := zk BK381 hb; replace HB := zb HB hb; (try clear hb); (try clear hb2); (try clear hk); (try clear hi); obtain ⟨hcz38_0, hcz38_1, hcz38_2, hcz38_3, hfz38_0, hfz38_1, hfz38_2, hfz38_3⟩ := zq4 BK381)))
  refine bodyPost_ret (results_cell_row rfl _ _ gb381 37 #[.int .i64 0, .int .i64 0, .int .i64 0, .int .i64 0] (0, 0) _ rfl (by exact zp BK381 rfl) Try.underlying37 rfl (by kernel_rfl)) rfl ?_
  exact ⟨by first | rfl | (simp [errW_none, errW_some] <;> rfl) | (simp [*, errW_none, errW_some] <;> rfl), by exact zbo HB GE381⟩

/-! ### raster_Join_1: function 56 -/
def raster_Join_1.f (a0 : Int) (a1 : Int) (l2_0 : List (S24)) (a3_0 : Int) : Option (Int × Int × Int × Int) := if 0 ≤ (wrap64 ((wrap64 ((wrap64 (Int.tdiv a1 16)) * a3_0)) + (wrap64 (Int.tdiv a0 16)))) then (if (wrap64 ((wrap64 ((wrap64 (Int.tdiv a1 16)) * a3_0)) + (wrap64 (Int.tdiv a0 16)))) < (l2_0.length : Int) then ((raster_get.f ((rd_T24 l2_0 (wrap64 ((wrap64 ((wrap64 (Int.tdiv a1 16)) * a3_0)) + (wrap64 (Int.tdiv a0 16))))).f0) ((rd_T24 l2_0 (wrap64 ((wrap64 ((wrap64 (Int.tdiv a1 16)) * a3_0)) + (wrap64 (Int.tdiv a0 16))))).f1) ((rd_T24 l2_0 (wrap64 ((wrap64 ((wrap64 (Int.tdiv a1 16)) * a3_0)) + (wrap64 (Int.tdiv a0 16))))).f2) (Int.tmod a0 16) (Int.tmod a1 16)).bind fun bt389 => (some (bt389.1, bt389.2.1, bt389.2.2.1, bt389.2.2.2))) else (none)) else (none)
set_option maxHeartbeats 8000000 in
set_option maxRecDepth 100000 in
theorem raster_Join_1.calls (a0 : Int) (a1 : Int) (gc2_0 : Nat) (A2_0 : Option Addr) (c2_0 : Nat) (l2_0 : List (S24)) (gc3_0 : Nat) (a3_0 : Int) (r1 : Int) (r2 : Int) (r3 : Int) (r4 : Int) (w : World) (hp2_0 : w.heap[gc2_0]? = some (.cells #[.slice A2_0 l2_0.length c2_0] 47 (0, 0))) (hr2_0 : Kd.C k24 w A2_0 l2_0.length l2_0) (hc2_0 : l2_0.length ≤ c2_0) (hp3_0 : w.heap[gc3_0]? = some (.cells #[.int .i64 a3_0] 3 (0, 0))) (h : raster_Join_1.f a0 a1 l2_0 a3_0 = some (r1, r2, r3, r4)) :
  Calls Try.prog 56 #[.int .i64 a0, .int .i64 a1, .pointer (some ⟨gc2_0, 0, none⟩), .pointer (some ⟨gc3_0, 0, none⟩)] w fun e w' => e = .returned (.agg #[.int .i64 r1, .int .i64 r2, .int .i64 r3, .int .i64 r4]) ∧ Below w.heap.size w w' := by
 have hu26 := Try.underlying26
 have hu24 := Try.underlying24
 have HR2_0 := Aside0.mk hr2_0
 have HC2_0 := Aside0.mk hc2_0
 clear hr2_0 hc2_0
 have BK385 := Aside0.mk hp2_0
 have GL385 := Aside0.mk (show gc2_0 < w.heap.size from blk_lt hp2_0)
 clear hp2_0
 have BK386 := Aside0.mk hp3_0
 have GL386 := Aside0.mk (show gc3_0 < w.heap.size from blk_lt hp3_0)
 clear hp3_0
 have HB := Aside0.mk (Below.refl w.heap.size w)
 have H : (if 0 ≤ (wrap64 ((wrap64 ((wrap64 (Int.tdiv a1 16)) * a3_0)) + (wrap64 (Int.tdiv a0 16)))) then (if (wrap64 ((wrap64 ((wrap64 (Int.tdiv a1 16)) * a3_0)) + (wrap64 (Int.tdiv a0 16)))) < (l2_0.length : Int) then ((raster_get.f ((rd_T24 l2_0 (wrap64 ((wrap64 ((wrap64 (Int.tdiv a1 16)) * a3_0)) + (wrap64 (Int.tdiv a0 16))))).f0) ((rd_T24 l2_0 (wrap64 ((wrap64 ((wrap64 (Int.tdiv a1 16)) * a3_0)) + (wrap64 (Int.tdiv a0 16))))).f1) ((rd_T24 l2_0 (wrap64 ((wrap64 ((wrap64 (Int.tdiv a1 16)) * a3_0)) + (wrap64 (Int.tdiv a0 16))))).f2) (Int.tmod a0 16) (Int.tmod a1 16)).bind fun bt389 => (some (bt389.1, bt389.2.1, bt389.2.2.1, bt389.2.2.2))) else (none)) else (none)) = some (r1, r2, r3, r4) := h
 clear h
 obtain ⟨ji5, hji5⟩ : ∃ j_ : Int, (wrap64 ((wrap64 ((wrap64 (Int.tdiv a1 16)) * a3_0)) + (wrap64 (Int.tdiv a0 16)))) = j_ := ⟨_, rfl⟩
 replace H : (if 0 ≤ (ji5) then (if (ji5) < (l2_0.length : Int) then ((raster_get.f ((rd_T24 l2_0 (ji5)).f0) ((rd_T24 l2_0 (ji5)).f1) ((rd_T24 l2_0 (ji5)).f2) (Int.tmod a0 16) (Int.tmod a1 16)).bind fun bt389 => (some (bt389.1, bt389.2.1, bt389.2.2.1, bt389.2.2.2))) else (none)) else (none)) = some (r1, r2, r3, r4) := by first | (rw [hji5] at H; exact H) | (simp only [hji5] at H ⊢; exact H)
 have hji5w : (IntKind.i64.wrap ((wrap64 ((wrap64 (Int.tdiv a1 16)) * a3_0)) + (wrap64 (Int.tdiv a0 16)))) = ji5 := (i64_w _).trans hji5
 by_cases c6 : 0 ≤ (ji5)
 ·rw [if_pos c6] at H
  have c6b0 : decide (0 ≤ (ji5)) = true := decide_eq_true c6
  clear c6
  by_cases c7 : (ji5) < (l2_0.length : Int)
  ·rw [if_pos c7] at H
   have c7b0 : decide ((ji5) < (l2_0.length : Int)) = true := decide_eq_true c7
   clear c7
   replace H := Option.bind_eq_some_iff.mp H
   obtain ⟨⟨t389, t390, t391, t392⟩, A80, H⟩ := H
   replace H : (some (t389, t390, t391, t392)) = some (r1, r2, r3, r4) := H
   have A8 := Aside0.mk A80
   clear A80
   simp only [Option.some.injEq, Prod.mk.injEq] at H
   obtain ⟨rfl, rfl, rfl, rfl⟩ := H
   go_enter Try.func56, Try.ntmps56
   go_wp2_with (first | ((with_reducible refine gate_dst (N := 6) rfl ?_); refine box_event ?hg (N := 6) ?hd (cs := #[.int .i64 0, .int .i64 0, .int .i64 0, .int .i64 0]) (t := 26) ?hr ?_; (case hd => rfl); (case hg => rfl); (case hr => first | (go_simp; done) | (go_simp; rfl)); intro gb387 hg w9 hbox hb; have GW387 := zg HB hg; have GE387 := zg HB hg; have NB385_387 := zn BK385 hg; have NB387_385 := zn' BK385 hg; have NB386_387 := zn BK386 hg; have NB387_386 := zn' BK386 hg; have n0_ := Aside0.mk (hbox); replace BK385 := zk BK385 hb; replace BK386 := zk BK386 hb; replace HB := zb HB hb; have BK387 := n0_; clear n0_; clear hb hbox hg; have hnb10 := NB385_387.out; have hnc10 := NB387_385.out; obtain ⟨hcz11_0, hfz11_0⟩ := zq1 BK385; have hnb12 := NB386_387.out; have hnc12 := NB387_386.out; obtain ⟨hcz13_0, hfz13_0⟩ := zq1 BK386; have p388 : 0 ≤ ((ji5) : Int) := of_decide_eq_true (by first | (with_reducible assumption) | assumption); have q388 : (ji5) < (l2_0.length : Int) := of_decide_eq_true (by first | (with_reducible assumption) | assumption); obtain ⟨ad388, A388_2, c388_2, e388, hx388_0, hx388_1, hx388_2, hl388_2, hi388_2⟩ := at_T24 HR2_0.out (ji5) p388 q388; cases e388; replace hx388_0 := (HB.out.cell (World.block_lt_of_cell? w _ hx388_0)).trans hx388_0; replace hx388_1 := (HB.out.cell (World.block_lt_of_cell? w _ hx388_1)).trans hx388_1; replace hx388_2 := (HB.out.cell (World.block_lt_of_cell? w _ hx388_2)).trans hx388_2; have HR388_2 := Aside0.mk hi388_2; have HC388_2 := Aside0.mk hl388_2; clear hi388_2 hl388_2; replace p388 := eq_true p388; replace q388 := eq_true q388) | ((with_reducible refine gate_callee (f := 43) rfl ?_); refine goesL_ (some 21) rfl rfl Try.func43 (by kernel_rfl) rfl #[.agg #[.int .i64 ((rd_T24 l2_0 (ji5)).f0), .int .i64 ((rd_T24 l2_0 (ji5)).f1), .slice A388_2 ((rd_T24 l2_0 (ji5)).f2).length c388_2], .int .i64 (Int.tmod a0 16), .int .i64 (Int.tmod a1 16)] rfl (by (try simp only [List.map_toArray, List.map_cons, List.map_nil]); first | done | (simp only [hji5]; rfl) | rfl | (simp only [List.length_drop, List.length_take]; rfl)) ?_; (with_reducible refine (raster_get.calls ((rd_T24 l2_0 (ji5)).f0) ((rd_T24 l2_0 (ji5)).f1) _ _ ((rd_T24 l2_0 (ji5)).f2) (Int.tmod a0 16) (Int.tmod a1 16) t389 t390 t391 t392 _ ?side1 ?side2 A8.out).mono ?_); (case side1 => repeat (first | exact (Kd.C_below HR388_2.out HB.out) | (with_reducible refine Kd.C_alloc ?_ _) | (with_reducible refine Kd.C_drewN ?_ _) | (with_reducible refine Kd.C_drew ?_))); (case side2 => exact HC388_2.out); rintro e w14 ⟨rfl, hb⟩; refine ⟨_, rfl, ?_⟩; replace BK385 := zk BK385 hb; replace BK386 := zk BK386 hb; replace BK387 := zk BK387 hb; replace HB := zb HB hb; (try clear hb); (try clear hb2); (try clear hk); (try clear hi); obtain ⟨hcz15_0, hcz15_1, hcz15_2, hcz15_3, hfz15_0, hfz15_1, hfz15_2, hfz15_3⟩ := zq4 BK387))
   refine bodyPost_ret (results_cell_row rfl _ _ gb387 26 #[.int .i64 t389, .int .i64 t390, .int .i64 t391, .int .i64 t392] (0, 0) _ rfl (by exact zp BK387 rfl) Try.underlying26 rfl (by kernel_rfl)) rfl ?_
   exact ⟨by first | rfl | (simp [errW_none, errW_some] <;> rfl) | (simp only [← hji5]; first | rfl | (simp [errW_none, errW_some] <;> rfl)) | (simp [*, errW_none, errW_some] <;> rfl), by exact zbo HB GE387⟩
  ·rw [if_neg c7] at H
   exact absurd H (by simp)
 ·rw [if_neg c6] at H
  exact absurd H (by simp)

end Go.Proofs.Ytjepbimgddgijaa.G
