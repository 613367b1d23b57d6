-- Written by a program of this session (wip/gx.py over the kit's print); Lean checks it.
import Derived.Test.YtmmncannibnklaaG0
import Derived.Test.YtmmncannibnklaaG2
import Derived.Test.YtmmncannibnklaaG22
import Derived.Test.YtmmncannibnklaaG23
namespace Go.Proofs.Ytmmncannibnklaa.G
open Go.RowKit Go.Proofs.YtmmncannibnklaaW.PrintWords Go.Proofs.YtmmncannibnklaaW.PrintLast Go.Proofs.YtmmncannibnklaaW.PrintMore
attribute [local go_sem] max2_int min2_int max_two min_two max_three min_three max_four min_four   -- for this text's walks alone
set_option linter.unusedVariables false
set_option linter.unusedSimpArgs false

/-! ### raster_fill__raster_Flip_4: function 41 -/
mutual
def raster_fill__raster_Flip_4.l0 : Nat → Int → Int → Int → Int → Int → List (S37) → Int → Int → List (S37) → Option (Int × Int × (List (S37)))
 | 0, _, _, _, _, _, _, _, _, _ => none
 | k + 1, x0, x17, x18, x774000, x774001, x774002, x779000, x779001, x779002 => if x18 < x17 then (raster_fill__raster_Flip_4.l1 k x0 x18 x17 x18 x0 0 x774000 x774001 x774002 x779000 x779001 x779002) else (some (x779000, x779001, x779002))
def raster_fill__raster_Flip_4.l1 : Nat → Int → Int → Int → Int → Int → Int → Int → Int → List (S37) → Int → Int → List (S37) → Option (Int × Int × (List (S37)))
 | 0, _, _, _, _, _, _, _, _, _, _, _, _ => none
 | k + 1, x0, x8, x17, x18, x21, x22, x774000, x774001, x774002, x779000, x779001, x779002 => if x22 < x21 then ((raster_Flip_4.f x22 x8 x774000 x774001 x774002).bind fun bt779 => (if x779002.length < 4398046511104 then (raster_fill__raster_Flip_4.l1 k x0 x8 x17 x18 x21 (wrap64 (x22 + 1)) x774000 x774001 x774002 x779000 x779001 (x779002 ++ [(⟨bt779.1, bt779.2.1, bt779.2.2.1, bt779.2.2.2⟩ : S37)])) else (none))) else (raster_fill__raster_Flip_4.l0 k x0 x17 (wrap64 (x18 + 1)) x774000 x774001 x774002 x779000 x779001 x779002)
end
def raster_fill__raster_Flip_4.f (k : Nat) (a0 : Int) (a1 : Int) (a2_0 : Int) (a2_1 : Int) (l2_2 : List (S37)) : Option (Int × Int × (List (S37))) := if 0 ≤ (wrap64 (a0 * a1)) then (if (wrap64 (a0 * a1) : Int).toNat ≤ 8796093022208 then (raster_fill__raster_Flip_4.l0 k a0 a1 0 a2_0 a2_1 l2_2 a0 a1 (([] : List (S37)))) else (none)) else (none)
theorem raster_fill__raster_Flip_4.mono_l : ∀ k, (∀ y0 y1 y2 y3 y4 y5 y6 y7 y8, LeO (raster_fill__raster_Flip_4.l0 k y0 y1 y2 y3 y4 y5 y6 y7 y8) (raster_fill__raster_Flip_4.l0 (k + 1) y0 y1 y2 y3 y4 y5 y6 y7 y8)) ∧ (∀ y0 y1 y2 y3 y4 y5 y6 y7 y8 y9 y10 y11, LeO (raster_fill__raster_Flip_4.l1 k y0 y1 y2 y3 y4 y5 y6 y7 y8 y9 y10 y11) (raster_fill__raster_Flip_4.l1 (k + 1) y0 y1 y2 y3 y4 y5 y6 y7 y8 y9 y10 y11))
 | 0 => ⟨fun _ _ _ _ _ _ _ _ _ r h => by simp [raster_fill__raster_Flip_4.l0] at h, fun _ _ _ _ _ _ _ _ _ _ _ _ r h => by simp [raster_fill__raster_Flip_4.l1] at h⟩
 | k + 1 => by
  obtain ⟨ih0, ih1⟩ := raster_fill__raster_Flip_4.mono_l k
  refine ⟨?_, ?_⟩
  ·intro y0 y1 y2 y3 y4 y5 y6 y7 y8
   unfold raster_fill__raster_Flip_4.l0
   repeat' first
   | (with_reducible exact ih0 _ _ _ _ _ _ _ _ _)
   | (with_reducible exact ih1 _ _ _ _ _ _ _ _ _ _ _ _)
   | (with_reducible exact LeO.refl _)
   | (with_reducible exact LeO.none _)
   | (with_reducible refine LeO.ite ?_ ?_)
   | (with_reducible refine LeO.bind ?_ (fun _ => ?_))
   | exact ih0 _ _ _ _ _ _ _ _ _
   | exact ih1 _ _ _ _ _ _ _ _ _ _ _ _
   | exact LeO.none _
   | refine LeO.ite ?_ ?_
   | refine LeO.bind ?_ (fun _ => ?_)
  ·intro y0 y1 y2 y3 y4 y5 y6 y7 y8 y9 y10 y11
   unfold raster_fill__raster_Flip_4.l1
   repeat' first
   | (with_reducible exact ih0 _ _ _ _ _ _ _ _ _)
   | (with_reducible exact ih1 _ _ _ _ _ _ _ _ _ _ _ _)
   | (with_reducible exact LeO.refl _)
   | (with_reducible exact LeO.none _)
   | (with_reducible refine LeO.ite ?_ ?_)
   | (with_reducible refine LeO.bind ?_ (fun _ => ?_))
   | exact ih0 _ _ _ _ _ _ _ _ _
   | exact ih1 _ _ _ _ _ _ _ _ _ _ _ _
   | exact LeO.none _
   | refine LeO.ite ?_ ?_
   | refine LeO.bind ?_ (fun _ => ?_)
theorem raster_fill__raster_Flip_4.mono : ∀ a0 a1 a2 a3 a4 k, LeO (raster_fill__raster_Flip_4.f k a0 a1 a2 a3 a4) (raster_fill__raster_Flip_4.f (k + 1) a0 a1 a2 a3 a4) := by
 intro a0 a1 a2 a3 a4 k
 obtain ⟨ih0, ih1⟩ := raster_fill__raster_Flip_4.mono_l k
 unfold raster_fill__raster_Flip_4.f
 repeat' first
   | (with_reducible exact ih0 _ _ _ _ _ _ _ _ _)
   | (with_reducible exact ih1 _ _ _ _ _ _ _ _ _ _ _ _)
   | (with_reducible exact LeO.refl _)
   | (with_reducible exact LeO.none _)
   | (with_reducible refine LeO.ite ?_ ?_)
   | (with_reducible refine LeO.bind ?_ (fun _ => ?_))
   | exact ih0 _ _ _ _ _ _ _ _ _
   | exact ih1 _ _ _ _ _ _ _ _ _ _ _ _
   | exact LeO.none _
   | refine LeO.ite ?_ ?_
   | refine LeO.bind ?_ (fun _ => ?_)
def raster_fill__raster_Flip_4.T8 : Bool × List (List Nat × List Nat) := (true, [([], []), ([0], [0]), ([], []), ([], []), ([], []), ([2, 3, 4], [2, 3, 4]), ([5], [5]), ([1, 6, 5], [1, 6]), ([0, 1, 2, 3, 4, 5, 6, 7], []), ([8, 7, 7, 0, 1, 2, 3, 4, 5, 6, 7], [7, 8])])
def raster_fill__raster_Flip_4.B8 : List Nat := [0, 1, 0, 0, 0, 28, 60, 127, 255, 511]
theorem raster_fill__raster_Flip_4.tab8 : rtab .any (opsOf Try.f41 8) = raster_fill__raster_Flip_4.T8 := by kernel_rfl
theorem raster_fill__raster_Flip_4.bits8 : waitsOk raster_fill__raster_Flip_4.T8.2 raster_fill__raster_Flip_4.B8 = true := by kernel_rfl
set_option maxHeartbeats 8000000 in
set_option maxRecDepth 100000 in
theorem raster_fill__raster_Flip_4.calls (k : Nat) (a0 : Int) (a1 : Int) (gc2_0 : Nat) (a2_0 : Int) (a2_1 : Int) (A2_2 : Option Addr) (c2_2 : Nat) (l2_2 : List (S37)) (r1 : Int) (r2 : Int) (r3 : List (S37)) (w : World) (hp2_0 : w.heap[gc2_0]? = some (.cells #[.int .i64 a2_0, .int .i64 a2_1, .slice A2_2 l2_2.length c2_2] 24 (0, 0))) (hr2_2 : Kd.C k37 w A2_2 l2_2.length l2_2) (hc2_2 : l2_2.length ≤ c2_2) (h : raster_fill__raster_Flip_4.f k a0 a1 a2_0 a2_1 l2_2 = some (r1, r2, r3)) :
  Calls Try.prog 41 #[.int .i64 a0, .int .i64 a1, .func (.func 46) #[] #[.pointer (some ⟨gc2_0, 0, none⟩)]] w fun e w' => ∃ v2_ : Value, e = .returned (.agg #[.int .i64 r1, .int .i64 r2, v2_]) ∧ Kd.R k37 37 w' w.heap.size (fun _ => True) v2_ r3 ∧ Below w.heap.size w w' := by
 have hu24 := Try.underlying24
 have HR2_2 := Aside0.mk hr2_2
 have HC2_2 := Aside0.mk hc2_2
 clear hr2_2 hc2_2
 have BK773 := Aside0.mk hp2_0
 have GL773 := Aside0.mk (show gc2_0 < w.heap.size from blk_lt hp2_0)
 clear hp2_0
 have HB := Aside0.mk (Below.refl w.heap.size w)
 have H : (if 0 ≤ (wrap64 (a0 * a1)) then (if (wrap64 (a0 * a1) : Int).toNat ≤ 8796093022208 then (raster_fill__raster_Flip_4.l0 k a0 a1 0 a2_0 a2_1 l2_2 a0 a1 (([] : List (S37)))) else (none)) else (none)) = some (r1, r2, r3) := h
 clear h
 obtain ⟨ji4, hji4⟩ : ∃ j_ : Int, (wrap64 (a0 * a1)) = j_ := ⟨_, rfl⟩
 replace H : (if 0 ≤ (ji4) then (if (ji4 : Int).toNat ≤ 8796093022208 then (raster_fill__raster_Flip_4.l0 k a0 a1 0 a2_0 a2_1 l2_2 a0 a1 (([] : List (S37)))) else (none)) else (none)) = some (r1, r2, r3) := by first | (rw [hji4] at H; exact H) | (simp only [hji4] at H ⊢; exact H)
 have hji4w : (IntKind.i64.wrap (a0 * a1)) = ji4 := (i64_w _).trans hji4
 by_cases c5 : 0 ≤ (ji4)
 ·rw [if_pos c5] at H
  have c5b0 := eq_true c5
  have c5b1 : decide (0 ≤ (ji4)) = true := decide_eq_true c5
  clear c5
  by_cases c6 : (ji4 : Int).toNat ≤ 8796093022208
  ·rw [if_pos c6] at H
   have c6b0 := eq_true c6
   have c6b1 : decide ((ji4 : Int).toNat ≤ 8796093022208) = true := decide_eq_true c6
   clear c6
   obtain ⟨y775, hy775⟩ : ∃ y_ : List (S37), y_ = (([] : List (S37))) := ⟨_, rfl⟩
   replace H : (raster_fill__raster_Flip_4.l0 k a0 a1 0 a2_0 a2_1 l2_2 a0 a1 y775) = some (r1, r2, r3) := by first | (rw [hy775]; with_reducible exact H) | (have H2_ := (Option.bind_some _ _).symm.trans H; rw [hy775]; with_reducible exact H2_) | (have H2_ := (Option.bind_some _ _).symm.trans H; with_reducible exact H2_) | with_reducible exact H | (rw [hy775]; exact H) | exact H
   have Ny775 := Aside0.mk hy775
   clear hy775
   have H' := Aside0.mk H
   clear H
   go_enter Try.func41, Try.ntmps41
   go_wp2_with (first | ((with_reducible refine gate_dst (N := 6) rfl ?_); refine box_event ?hg (N := 6) ?hd (cs := #[.int .i64 0, .int .i64 0, .slice none 0 0]) (t := 24) ?hr ?_; (case hd => rfl); (case hg => rfl); (case hr => first | (go_simp; done) | (go_simp; rfl)); intro gb774 hg w7 hbox hb; have GW774 := zg HB hg; have GE774 := zg HB hg; have NB773_774 := zn BK773 hg; have NB774_773 := zn' BK773 hg; have n0_ := Aside0.mk (hbox); replace BK773 := zk BK773 hb; replace HB := zb HB hb; have BK774 := n0_; clear n0_; clear hb hbox hg) | ((with_reducible refine gate_dst (N := 15) rfl ?_); refine Kd.R_make0 k37 _ 37 rfl (N := 15) rfl 22 _ _ rfl ji4 rfl rfl Try.underlying22 (.agg #[(.int .i64 0), (.int .i64 0), (.int .i64 0), (.int .i64 0)]) 32 info37 rfl (by decide) (by omega) z37 (ok := fun _ => True) (okp := fun _ => True) (k37_mkM _ _ _ z37 ) (fun _ hk => hk) trivial (of_decide_eq_true (by first | (with_reducible assumption) | assumption)) (Nat.le_trans (Nat.mul_le_mul_right _ (of_decide_eq_true (by first | (with_reducible assumption) | assumption) : ji4.toNat ≤ 8796093022208)) (by omega)) (Below.refl _ _) (Nat.le_refl _) ?_; intro v776 w8 ho9 hb hg_ hnew_; clear hg_ hnew_; (first | rw [← Ny775.out] at ho9 | (simp only [Int.reduceToNat] at ho9; rw [← Ny775.out] at ho9)); have HO777 := zl HB ho9; replace BK773 := zk BK773 hb; replace BK774 := zk BK774 hb; replace HB := zb HB hb; clear hb ho9; obtain ⟨Ao10, co10, eo10⟩ := Kd.R_slice HO777.out; subst eo10) | ((with_reducible refine gate_dst (N := 7) rfl ?_); refine box_event ?hg (N := 7) ?hd (cs := #[.int .i64 0, .int .i64 0, .slice none 0 0]) (t := 24) ?hr ?_; (case hd => rfl); (case hg => rfl); (case hr => first | (go_simp; done) | (go_simp; rfl)); intro gb778 hg w11 hbox hb; have GW778 := zg HB hg; have GE778 := zg HB hg; have NB773_778 := zn BK773 hg; have NB778_773 := zn' BK773 hg; have NB774_778 := zn BK774 hg; have NB778_774 := zn' BK774 hg; have n0_ := Aside0.mk (hbox); replace HO777 := zr HO777 hb; replace BK773 := zk BK773 hb; replace BK774 := zk BK774 hb; replace HB := zb HB hb; have BK778 := n0_; clear n0_; clear hb hbox hg; have hnb12 := NB778_773.out; have hnc12 := NB773_778.out; have hnb13 := NB778_774.out; have hnc13 := NB774_778.out; obtain ⟨hcz14_0, hcz14_1, hcz14_2, hfz14_0, hfz14_1, hfz14_2⟩ := zq3 BK778))
   (try simp only [Act.put, sA, sB, sC])
   go_loopg [18] k (fun kq v18 w' => ∃ (x18_1 : Int) (x779002_1 : List (S37)) (u779002 : Value), v18 = .int .i64 x18_1 ∧ Aside0 (raster_fill__raster_Flip_4.l0 kq a0 a1 x18_1 a2_0 a2_1 l2_2 a0 a1 x779002_1 = some (r1, r2, r3)) ∧ Aside0 (kq ≤ k) ∧ Aside0 (Kd.R k37 37 w' w.heap.size (fun _ => True) u779002 x779002_1) ∧ Aside0 (w'.heap[gc2_0]? = some (.cells #[.int .i64 a2_0, .int .i64 a2_1, (.slice A2_2 l2_2.length c2_2)] 24 (0, 0))) ∧ Aside0 (w'.heap[gb774]? = some (.cells #[.int .i64 0, .int .i64 0, (.slice none 0 0)] 24 (0, 0))) ∧ Aside0 (w'.heap[gb778]? = some (.cells #[.int .i64 a0, .int .i64 a1, u779002] 24 (0, 0))) ∧ Aside0 (Below w.heap.size w w'))
   case atStart => exact ⟨(0), (y775), (.slice Ao10 y775.length co10), (by first | rfl | (simp; done) | (simp [*]; done)), H', ⟨Nat.le_refl _⟩, ⟨by exact zro HO777 BK778 (by decide)⟩, ⟨by exact zf BK773 NB773_778⟩, ⟨by exact zf BK774 NB774_778⟩, ⟨by exact zp BK778 rfl⟩, ⟨by exact zbo HB GE778⟩⟩
   case round =>
    clear H'
    try clear c1
    try clear c2
    try clear p2
    try clear q3
    try clear c4
    try clear c5
    try clear c5b0
    try clear c5b1
    try clear c6
    try clear c6b0
    try clear c6b1
    try clear p6
    try clear c12
    try clear c13
    try clear hcz14_0
    try clear hcz14_1
    try clear hcz14_2
    try clear hfz14_0
    try clear hfz14_1
    try clear hfz14_2
    obtain ⟨x18_1, x779002_1, u779002, rfl, HA, HK1, HO_779002, BK773, BK774, BK778, HB⟩ := hrel
    cases gk with
    | zero => exact absurd HA.out (by simp [raster_fill__raster_Flip_4.l0])
    | succ k1 =>
     have H := HA.out
     clear HA
     simp only [raster_fill__raster_Flip_4.l0] at H
     by_cases c15 : x18_1 < a1
     ·rw [if_pos c15] at H
      have c15b0 : decide (x18_1 < a1) = true := decide_eq_true c15
      clear c15
      have H' := Aside0.mk H
      clear H
      go_wp2
      go_loopg [22] k1 (fun kq v22 w' => ∃ (x22_2 : Int) (x779002_2 : List (S37)) (u779002 : Value), v22 = .int .i64 x22_2 ∧ Aside0 (raster_fill__raster_Flip_4.l1 kq a0 x18_1 a1 x18_1 a0 x22_2 a2_0 a2_1 l2_2 a0 a1 x779002_2 = some (r1, r2, r3)) ∧ Aside0 (kq ≤ k1) ∧ Aside0 (Kd.R k37 37 w' w.heap.size (fun _ => True) u779002 x779002_2) ∧ Aside0 (w'.heap[gc2_0]? = some (.cells #[.int .i64 a2_0, .int .i64 a2_1, (.slice A2_2 l2_2.length c2_2)] 24 (0, 0))) ∧ Aside0 (w'.heap[gb774]? = some (.cells #[.int .i64 0, .int .i64 0, (.slice none 0 0)] 24 (0, 0))) ∧ Aside0 (w'.heap[gb778]? = some (.cells #[.int .i64 a0, .int .i64 a1, u779002] 24 (0, 0))) ∧ Aside0 (Below w.heap.size w w'))
      case atStart => exact ⟨(0), (x779002_1), (u779002), (by first | rfl | (simp; done) | (simp [*]; done)), H', ⟨Nat.le_refl _⟩, ⟨by exact zr0 HO_779002⟩, ⟨by exact zk0 BK773⟩, ⟨by exact zk0 BK774⟩, ⟨by exact zk0 BK778⟩, ⟨by exact zb0 HB⟩⟩
      case round =>
       clear H'
       try clear c1
       try clear c2
       try clear p2
       try clear q3
       try clear c4
       try clear c5
       try clear c5b0
       try clear c5b1
       try clear c6
       try clear c6b0
       try clear c6b1
       try clear p6
       try clear c12
       try clear c13
       try clear c15
       try clear c15b0
       try clear hcz14_0
       try clear hcz14_1
       try clear hcz14_2
       try clear hfz14_0
       try clear hfz14_1
       try clear hfz14_2
       try clear p2
       try clear p6
       try clear q3
       obtain ⟨x22_2, x779002_2, u779002, rfl, HA, HK2, HO_779002, BK773, BK774, BK778, HB⟩ := hrel
       cases gk with
       | zero => exact absurd HA.out (by simp [raster_fill__raster_Flip_4.l1])
       | succ k2 =>
        have H := HA.out
        clear HA
        simp only [raster_fill__raster_Flip_4.l1] at H
        by_cases c16 : x22_2 < a0
        ·rw [if_pos c16] at H
         have c16b0 : decide (x22_2 < a0) = true := decide_eq_true c16
         clear c16
         replace H := Option.bind_eq_some_iff.mp H
         obtain ⟨⟨t779, t780, t781, t782⟩, A170, H⟩ := H
         replace H : (if x779002_2.length < 4398046511104 then (raster_fill__raster_Flip_4.l1 k2 a0 x18_1 a1 x18_1 a0 (wrap64 (x22_2 + 1)) a2_0 a2_1 l2_2 a0 a1 (x779002_2 ++ [(⟨t779, t780, t781, t782⟩ : S37)])) else (none)) = some (r1, r2, r3) := H
         have A17 := Aside0.mk A170
         clear A170
         by_cases c18 : x779002_2.length < 4398046511104
         ·rw [if_pos c18] at H
          have LMc18 := Aside0.mk c18
          clear c18
          obtain ⟨y783, hy783⟩ : ∃ y_ : List (S37), y_ = (x779002_2 ++ [(⟨t779, t780, t781, t782⟩ : S37)]) := ⟨_, rfl⟩
          replace H : (raster_fill__raster_Flip_4.l1 k2 a0 x18_1 a1 x18_1 a0 (wrap64 (x22_2 + 1)) a2_0 a2_1 l2_2 a0 a1 y783) = some (r1, r2, r3) := by first | (rw [hy783]; with_reducible exact H) | (have H2_ := (Option.bind_some _ _).symm.trans H; rw [hy783]; with_reducible exact H2_) | (have H2_ := (Option.bind_some _ _).symm.trans H; with_reducible exact H2_) | with_reducible exact H | (rw [hy783]; exact H) | exact H
          have Ny783 := Aside0.mk hy783
          clear hy783
          have H' := Aside0.mk H
          clear H
          try go_wp2
          replace HO_779002 := zrd HO_779002
          replace BK773 := zkd BK773
          replace BK774 := zkd BK774
          replace BK778 := zkd BK778
          replace HB := zbd HB
          refine start_ (n := 10) (S := fun w' => w'.cell? ⟨gb778, 0, none⟩ = some (.int .i64 a0) ∧ w'.cell? ⟨gb778, 1, none⟩ = some (.int .i64 a1) ∧ w'.cell? ⟨gb778, 2, none⟩ = some (u779002)) (ds := [9]) (bs 10 0) (by kernel_rfl) rfl rfl ⟨(blk_cell BK778.out 0).trans rfl, (blk_cell BK778.out 1).trans rfl, (blk_cell BK778.out 2).trans rfl⟩ (fun hHeld => ?_); refine with_tabW raster_fill__raster_Flip_4.tab8 raster_fill__raster_Flip_4.bits8 (fun HT_ HW_ => ?_)
          generalize wr.drew = w19 at HO_779002 BK773 BK774 BK778 HB hHeld ⊢
          refine pure_ (i := 0) (N := some 25) (v := ?_) (a' := ?_) (bs 10 1) rfl rfl (any_of HT_.out (by kernel_rfl)) (fun _ _ _ h => h) (Or.inl ⟨by rfl, ?_⟩) ?_ ?_
          rotate_left
          ·intro w'
           go_simp
           with_reducible rfl
          rotate_left
          ·simp only [Act.put, sA, sB, sC, i64_w, i32_w]
           rfl
          refine pure_ (i := 2) (N := some 27) (v := ?_) (a' := ?_) (bs 10 5) rfl rfl (any_of HT_.out (by kernel_rfl)) (fun _ _ _ h => h) (Or.inl ⟨by rfl, ?_⟩) ?_ ?_
          rotate_left
          ·intro w'
           go_simp
           with_reducible rfl
          rotate_left
          ·simp only [Act.put, sA, sB, sC, i64_w, i32_w]
           rfl
          refine pure_ (i := 3) (N := some 28) (v := ?_) (a' := ?_) (bs 10 13) rfl rfl (any_of HT_.out (by kernel_rfl)) (fun _ _ _ h => h) (Or.inl ⟨by rfl, ?_⟩) ?_ ?_
          rotate_left
          ·intro w'
           go_simp
           with_reducible rfl
          rotate_left
          ·simp only [Act.put, sA, sB, sC, i64_w, i32_w]
           rfl
          refine pure_ (i := 4) (N := some 29) (v := ?_) (a' := ?_) (bs 10 29) rfl rfl (any_of HT_.out (by kernel_rfl)) (fun _ _ _ h => h) (Or.inl ⟨by rfl, ?_⟩) ?_ ?_
          rotate_left
          ·intro w'
           go_simp
           with_reducible rfl
          rotate_left
          ·simp only [Act.put, sA, sB, sC, i64_w, i32_w]
           rfl
          refine take_ (i := 1) (N := some 26) (v := ?_) (a' := ?_) (bs 10 31) rfl rfl (take_ofW HT_.out HW_.out (by kernel_rfl)) (fun _ _ _ h => h) (Or.inl ⟨by rfl, ?_⟩) hHeld ?_ ?_
          rotate_left
          ·rintro w' ⟨s0, s1, s2⟩
           go_simp
           with_reducible rfl
          rotate_left
          ·simp only [Act.put, sA, sB, sC, i64_w, i32_w]
           rfl
          refine one_ (i := 5) (N := some 30) (bs 10 63) rfl rfl (one_of HT_.out (by kernel_rfl)) (by decide) (fun K hK => ?_)
          refine goesT_ (t := 27) Try.func46 (by kernel_rfl) rfl #[.pointer (some ⟨gc2_0, 0, none⟩)] #[.int .i64 x22_2, .int .i64 x18_1, .pointer (some ⟨gc2_0, 0, none⟩)] (by rfl) rfl rfl (by first | rfl | (go_simp; done) | (go_simp; rfl)) (by (try simp only [List.map_toArray, List.map_cons, List.map_nil]); first | done | rfl | (go_simp; done) | (go_simp; rfl)) ?_
          with_reducible refine (raster_Flip_4.calls x22_2 x18_1 gc2_0 a2_0 a2_1 A2_2 c2_2 l2_2 t779 t780 t781 t782 _ ?side1 ?side2 ?side3 A17.out).mono ?_
          (case side1 => exact zk0 BK773)
          (case side2 => repeat (first | exact (Kd.C_below HR2_2.out HB.out) | (with_reducible refine Kd.C_alloc ?_ _) | (with_reducible refine Kd.C_drewN ?_ _) | (with_reducible refine Kd.C_drew ?_)))
          (case side3 => exact HC2_2.out)
          rintro e w20 ⟨rfl, hb⟩
          refine ⟨_, rfl, ?_⟩
          replace HO_779002 := zr HO_779002 hb
          replace BK773 := zk BK773 hb
          replace BK774 := zk BK774 hb
          replace BK778 := zk BK778 hb
          replace HB := zb HB hb
          (try clear hb)
          (try clear hb2)
          (try clear hk)
          (try clear hi)
          refine hK.out _ _ ⟨(blk_cell BK778.out 0).trans rfl, (blk_cell BK778.out 1).trans rfl, (blk_cell BK778.out 2).trans rfl⟩ (fun hHeld => ?_)
          clear hK K
          refine norm_ (a' := ?_) ?_ ?_
          rotate_left
          ·show Act.put _ (some 30) _ = _
           simp only [Act.put, sA, sB, sC, i64_w, i32_w]
           rfl
          refine one_ (i := 6) (N := some 31) (bs 10 127) rfl rfl (one_of HT_.out (by kernel_rfl)) (by decide) (fun K hK => ?_)
          refine value_ (w1 := ?_) (v := ?_) (by rfl) rfl ?_ ?_
          rotate_left 2
          ·go_simp
           constructor
           ·rfl
           ·rfl
          refine hK.out _ _ ⟨(blk_cell (blk_alloc BK778.out _) 0).trans rfl, (blk_cell (blk_alloc BK778.out _) 1).trans rfl, (blk_cell (blk_alloc BK778.out _) 2).trans rfl⟩ (fun hHeld => ?_)
          clear hK K
          refine norm_ (a' := ?_) ?_ ?_
          rotate_left
          ·show Act.put _ (some 31) _ = _
           simp only [Act.put, sA, sB, sC, i64_w, i32_w]
           rfl
          refine one_ (i := 7) (N := some 32) (bs 10 255) rfl rfl (one_of HT_.out (by kernel_rfl)) (by decide) (fun K hK => ?_)
          refine Kd.R_append_step k37 (w0 := w) w.heap.size (by rfl) (.tmp 26) (.tmp 31) 22 37 (.agg #[(.int .i64 0), (.int .i64 0), (.int .i64 0), (.int .i64 0)]) 32 rfl Try.underlying22 info37 rfl (by decide) (by omega) u779002 x779002_2 (⟨t779, t780, t781, t782⟩ : S37) [.int .i64 t779, .int .i64 t780, .int .i64 t781, .int .i64 t782] (fun _ => True) (fun _ => False) rfl rfl ?aP (fun _ hk => hk.elim) ?aF ?aO ?aB ?aS ?aL ?_
          (case aP => exact k37_mkM _ _ _ (⟨t779, t780, t781, t782⟩ : S37))
          (case aB => exact (by exact zb0 HB))
          (case aF => exact (fun _ _ => trivial))
          (case aO => exact (by exact zr0 HO_779002))
          (case aS => exact (below_size (by exact zb0 HB)))
          (case aL => have := LMc18.out; omega)
          intro v784 w21 ho hb hg hat
          rw [← Ny783.out] at ho
          have n0_ := Aside0.mk (blk_grown (zk0 BK773) hg (fun e_ => Nat.not_le.2 GL773.out (Kd.R_base HO_779002.out _ e_.symm)))
          have n1_ := Aside0.mk (blk_grown (zk0 BK774) hg (Kd.R_ne HO_779002.out BK774.out (by decide)))
          have n2_ := Aside0.mk (blk_grown (zk0 BK778) hg (Kd.R_ne HO_779002.out BK778.out (by decide)))
          have n3_ := Aside0.mk (hb)
          have n4_ := Aside0.mk (ho)
          clear BK773
          clear BK774
          clear BK778
          clear HB
          clear HO_779002
          have BK773 := n0_
          have BK774 := n1_
          have BK778 := n2_
          have HB := n3_
          have HO785 := n4_
          clear n0_ n1_ n2_ n3_ n4_
          clear ho hb hg hat
          obtain ⟨Ao22, co22, eo22⟩ := Kd.R_slice HO785.out
          (first | subst eo22 | (injection eo22 with f1_ f2_ f3_; have f4_ := f1_.symm; have f5_ := f3_.symm; clear f1_ f2_ f3_; subst f4_; subst f5_))
          refine hK.out _ _ ⟨(blk_cell BK778.out 0).trans rfl, (blk_cell BK778.out 1).trans rfl, (blk_cell BK778.out 2).trans rfl⟩ (fun hHeld => ?_)
          clear hK K
          refine norm_ (a' := ?_) ?_ ?_
          rotate_left
          ·show Act.put _ (some 32) _ = _
           simp only [Act.put, sA, sB, sC, i64_w, i32_w]
           rfl
          refine pure_ (i := 8) (N := some 33) (v := ?_) (a' := ?_) (bs 10 511) rfl rfl (any_of HT_.out (by kernel_rfl)) (fun _ _ _ h => h) (Or.inl ⟨by rfl, ?_⟩) ?_ ?_
          rotate_left
          ·intro w'
           go_simp
           with_reducible rfl
          rotate_left
          ·simp only [Act.put, sA, sB, sC, i64_w, i32_w]
           rfl
          refine last_ (i := 9) (N := none) (bs 10 1023) rfl rfl (one_of HT_.out (by kernel_rfl)) (by decide) (fun K hK => ?_)
          have hs23 : w21.cell? ⟨gb778, 2, none⟩ = some (u779002) := (blk_cell BK778.out 2).trans rfl
          have hfs23 := blk_frozen BK778.out 2
          have hns23_0 := NB773_778.out
          have hns23_1 := NB774_778.out
          have hms23_0 := NB778_773.out
          have hms23_1 := NB778_774.out
          refine skip_ (w1 := ?_) (by rfl) rfl ?_ ?_
          rotate_left
          ·go_simp
           rfl
          refine hK.out _ _ ?_
          clear hK K
          refine done_ (done_of HT_.out (by kernel_rfl)) ?_
          try go_wp2
          first | go_roundg k2 | ((try subst hji4); go_roundg k2)
          case measure => have := HK1.out; have := HK2.out; omega
          case rel => first | (exact ⟨(wrap64 (x22_2 + 1)), (y783), (.slice Ao22 y783.length co22), (by first | rfl | (simp; done) | (simp [*]; done)), H', ⟨by have := HK1.out; have := HK2.out; omega⟩, ⟨by exact zro HO785 BK778 (by decide)⟩, ⟨by exact zf BK773 NB773_778⟩, ⟨by exact zf BK774 NB774_778⟩, ⟨by exact zp BK778 rfl⟩, ⟨by exact zbo HB GE778⟩⟩) | (exact ⟨(wrap64 (x22_2 + 1)), (y783), (.slice Ao22 y783.length co22), (by first | rfl | (simp; done) | (simp [*]; done)), H', ⟨by have := HK1.out; have := HK2.out; omega⟩, ⟨by exact zro HO785 BK778 (by decide)⟩, ⟨by exact zf BK773 NB773_778⟩, ⟨by exact zf BK774 NB774_778⟩, ⟨by exact zp BK778 rfl⟩, ⟨by exact zbo HB GE778⟩⟩)
         ·rw [if_neg c18] at H
          exact absurd H (by simp)
        ·rw [if_neg c16] at H
         have c16b0 : decide (x22_2 < a0) = false := decide_eq_false c16
         clear c16
         have H' := Aside0.mk H
         clear H
         go_wp2
         first | go_roundg k2 | ((try subst hji4); go_roundg k2)
         case measure => have := HK1.out; have := HK2.out; omega
         case rel => first | (exact ⟨(wrap64 (x18_1 + 1)), (x779002_2), (u779002), (by first | rfl | (simp; done) | (simp [*]; done)), H', ⟨by have := HK1.out; have := HK2.out; omega⟩, ⟨by exact zr0 HO_779002⟩, ⟨by exact zk0 BK773⟩, ⟨by exact zk0 BK774⟩, ⟨by exact zk0 BK778⟩, ⟨by exact zb0 HB⟩⟩) | (exact ⟨(wrap64 (x18_1 + 1)), (x779002_2), (u779002), (by first | rfl | (simp; done) | (simp [*]; done)), H', ⟨by have := HK1.out; have := HK2.out; omega⟩, ⟨by exact zr0 HO_779002⟩, ⟨by exact zk0 BK773⟩, ⟨by exact zk0 BK774⟩, ⟨by exact zk0 BK778⟩, ⟨by exact zb0 HB⟩⟩)
     ·rw [if_neg c15] at H
      have c15b0 : decide (x18_1 < a1) = false := decide_eq_false c15
      clear c15
      simp only [Option.some.injEq, Prod.mk.injEq] at H
      obtain ⟨rfl, rfl, rfl⟩ := H
      have hnb24 := NB778_773.out
      have hnc24 := NB773_778.out
      have hnb25 := NB778_774.out
      have hnc25 := NB774_778.out
      obtain ⟨hcz26_0, hcz26_1, hcz26_2, hfz26_0, hfz26_1, hfz26_2⟩ := zq3 BK778
      have hnb27 := NB774_773.out
      have hnc27 := NB773_774.out
      obtain ⟨hcz28_0, hcz28_1, hcz28_2, hfz28_0, hfz28_1, hfz28_2⟩ := zq3 BK774
      obtain ⟨Ao29, co29, eo29⟩ := Kd.R_slice HO_779002.out
      subst eo29
      go_wp2
      refine bodyPost_ret (results_cell_row rfl _ _ gb774 24 #[.int .i64 a0, .int .i64 a1, .slice Ao29 x779002_1.length co29] (0, 0) _ rfl (by exact zp BK774 rfl) Try.underlying24 rfl (by kernel_rfl)) rfl ?_
      exact ⟨_, by first | rfl | (simp [errW_none, errW_some] <;> rfl) | (simp only [← hji4]; first | rfl | (simp [errW_none, errW_some] <;> rfl)) | (simp [*, errW_none, errW_some] <;> rfl), by exact zro HO_779002 BK774 (by decide), by exact zbo HB GE774⟩
  ·rw [if_neg c6] at H
   exact absurd H (by simp)
 ·rw [if_neg c5] at H
  exact absurd H (by simp)

/-! ### raster_Flip: function 21 -/
def raster_Flip.f (k : Nat) (a0_0 : Int) (a0_1 : Int) (l0_2 : List (S37)) (a1 : Int) : Option (Int × Int × (List (S37)) × Int) := (raster_Check.f k a0_0 a0_1 l0_2).bind fun t788 => (if t788 = 0 then (if a1 = 1 then ((raster_fill__raster_Flip_1.f k a0_0 a0_1 a0_0 a0_1 l0_2).bind fun bt789 => (some (bt789.1, bt789.2.1, bt789.2.2, 0))) else (if a1 = 2 then ((raster_fill__raster_Flip_2.f k a0_0 a0_1 a0_0 a0_1 l0_2).bind fun bt794 => (some (bt794.1, bt794.2.1, bt794.2.2, 0))) else (if a1 = 3 then ((raster_fill__raster_Flip_3.f k a0_1 a0_0 a0_0 a0_1 l0_2).bind fun bt799 => (some (bt799.1, bt799.2.1, bt799.2.2, 0))) else (if a1 = 4 then ((raster_fill__raster_Flip_4.f k a0_0 a0_1 a0_0 a0_1 l0_2).bind fun bt804 => (some (bt804.1, bt804.2.1, bt804.2.2, 0))) else (some (0, 0, ([] : List (S37)), 8)))))) else (some (0, 0, ([] : List (S37)), t788)))
theorem raster_Flip.mono : ∀ a0 a1 a2 a3 k, LeO (raster_Flip.f k a0 a1 a2 a3) (raster_Flip.f (k + 1) a0 a1 a2 a3) := by
 intro a0 a1 a2 a3 k
 unfold raster_Flip.f
 repeat' first
   | (with_reducible exact raster_Check.mono _ _ _ _)
   | (with_reducible exact raster_fill__raster_Flip_1.mono _ _ _ _ _ _)
   | (with_reducible exact raster_fill__raster_Flip_2.mono _ _ _ _ _ _)
   | (with_reducible exact raster_fill__raster_Flip_3.mono _ _ _ _ _ _)
   | (with_reducible exact raster_fill__raster_Flip_4.mono _ _ _ _ _ _)
   | (with_reducible exact LeO.refl _)
   | (with_reducible exact LeO.none _)
   | (with_reducible refine LeO.ite ?_ ?_)
   | (with_reducible refine LeO.bind ?_ (fun _ => ?_))
   | exact raster_Check.mono _ _ _ _
   | exact raster_fill__raster_Flip_1.mono _ _ _ _ _ _
   | exact raster_fill__raster_Flip_2.mono _ _ _ _ _ _
   | exact raster_fill__raster_Flip_3.mono _ _ _ _ _ _
   | exact raster_fill__raster_Flip_4.mono _ _ _ _ _ _
   | exact LeO.none _
   | refine LeO.ite ?_ ?_
   | refine LeO.bind ?_ (fun _ => ?_)
set_option maxHeartbeats 8000000 in
set_option maxRecDepth 100000 in
theorem raster_Flip.calls (k : Nat) (a0_0 : Int) (a0_1 : Int) (A0_2 : Option Addr) (c0_2 : Nat) (l0_2 : List (S37)) (a1 : Int) (r1 : Int) (r2 : Int) (r3 : List (S37)) (r4 : Int) (w : World) (hr0_2 : Kd.C k37 w A0_2 l0_2.length l0_2) (hc0_2 : l0_2.length ≤ c0_2) (h : raster_Flip.f k a0_0 a0_1 l0_2 a1 = some (r1, r2, r3, r4)) :
  Calls Try.prog 21 #[.agg #[.int .i64 a0_0, .int .i64 a0_1, .slice A0_2 l0_2.length c0_2], .int .i64 a1] w fun e w' => ∃ v2_ : Value, e = .returned (.tuple #[.agg #[.int .i64 r1, .int .i64 r2, v2_], .int .i64 r4]) ∧ Kd.R k37 37 w' w.heap.size (fun _ => True) v2_ r3 ∧ Below w.heap.size w w' := by
 have hu24 := Try.underlying24
 have HR0_2 := Aside0.mk hr0_2
 have HC0_2 := Aside0.mk hc0_2
 clear hr0_2 hc0_2
 have HB := Aside0.mk (Below.refl w.heap.size w)
 have H : ((raster_Check.f k a0_0 a0_1 l0_2).bind fun t788 => (if t788 = 0 then (if a1 = 1 then ((raster_fill__raster_Flip_1.f k a0_0 a0_1 a0_0 a0_1 l0_2).bind fun bt789 => (some (bt789.1, bt789.2.1, bt789.2.2, 0))) else (if a1 = 2 then ((raster_fill__raster_Flip_2.f k a0_0 a0_1 a0_0 a0_1 l0_2).bind fun bt794 => (some (bt794.1, bt794.2.1, bt794.2.2, 0))) else (if a1 = 3 then ((raster_fill__raster_Flip_3.f k a0_1 a0_0 a0_0 a0_1 l0_2).bind fun bt799 => (some (bt799.1, bt799.2.1, bt799.2.2, 0))) else (if a1 = 4 then ((raster_fill__raster_Flip_4.f k a0_0 a0_1 a0_0 a0_1 l0_2).bind fun bt804 => (some (bt804.1, bt804.2.1, bt804.2.2, 0))) else (some (0, 0, ([] : List (S37)), 8)))))) else (some (0, 0, ([] : List (S37)), t788)))) = some (r1, r2, r3, r4) := h
 clear h
 replace H := Option.bind_eq_some_iff.mp H
 obtain ⟨t788, A30, H⟩ := H
 replace H : (if t788 = 0 then (if a1 = 1 then ((raster_fill__raster_Flip_1.f k a0_0 a0_1 a0_0 a0_1 l0_2).bind fun bt789 => (some (bt789.1, bt789.2.1, bt789.2.2, 0))) else (if a1 = 2 then ((raster_fill__raster_Flip_2.f k a0_0 a0_1 a0_0 a0_1 l0_2).bind fun bt794 => (some (bt794.1, bt794.2.1, bt794.2.2, 0))) else (if a1 = 3 then ((raster_fill__raster_Flip_3.f k a0_1 a0_0 a0_0 a0_1 l0_2).bind fun bt799 => (some (bt799.1, bt799.2.1, bt799.2.2, 0))) else (if a1 = 4 then ((raster_fill__raster_Flip_4.f k a0_0 a0_1 a0_0 a0_1 l0_2).bind fun bt804 => (some (bt804.1, bt804.2.1, bt804.2.2, 0))) else (some (0, 0, ([] : List (S37)), 8)))))) else (some (0, 0, ([] : List (S37)), t788))) = some (r1, r2, r3, r4) := H
 have A3 := Aside0.mk A30
 clear A30
 by_cases c4 : t788 = 0
 ·rw [if_pos c4] at H
  have c4b0 : (t788 == 0) = true := beq_iff_eq.mpr c4
  have c4b1 : (t788 != 0) = false := bne_eq_false_iff_eq.mpr c4
  clear c4
  by_cases c5 : a1 = 1
  ·rw [if_pos c5] at H
   have c5b0 : (a1 == 1) = true := beq_iff_eq.mpr c5
   have c5b1 : (a1 != 1) = false := bne_eq_false_iff_eq.mpr c5
   clear c5
   replace H := Option.bind_eq_some_iff.mp H
   obtain ⟨⟨t789, t790, t791⟩, A60, H⟩ := H
   replace H : (some (t789, t790, t791, 0)) = some (r1, r2, r3, r4) := H
   have A6 := Aside0.mk A60
   clear A60
   simp only [Option.some.injEq, Prod.mk.injEq] at H
   obtain ⟨rfl, rfl, rfl, rfl⟩ := H
   go_enter Try.func21, Try.ntmps21
   go_wp2_with (first | ((with_reducible refine gate_dst (N := 2) rfl ?_); refine box_event ?hg (N := 2) ?hd (cs := #[.int .i64 a0_0, .int .i64 a0_1, .slice A0_2 l0_2.length c0_2]) (t := 24) ?hr ?_; (case hd => rfl); (case hg => rfl); (case hr => first | (go_simp; done) | (go_simp; rfl)); intro gb786 hg w7 hbox hb; have GW786 := zg HB hg; have GE786 := zg HB hg; have n0_ := Aside0.mk (hbox); replace HB := zb HB hb; have BK786 := n0_; clear n0_; clear hb hbox hg) | ((with_reducible refine gate_dst (N := 4) rfl ?_); refine box_event ?hg (N := 4) ?hd (cs := #[.int .i64 0, .int .i64 0, .slice none 0 0]) (t := 24) ?hr ?_; (case hd => rfl); (case hg => rfl); (case hr => first | (go_simp; done) | (go_simp; rfl)); intro gb787 hg w8 hbox hb; have GW787 := zg HB hg; have GE787 := zg HB hg; have NB786_787 := zn BK786 hg; have NB787_786 := zn' BK786 hg; have n0_ := Aside0.mk (hbox); replace BK786 := zk BK786 hb; replace HB := zb HB hb; have BK787 := n0_; clear n0_; clear hb hbox hg; have hnb9 := NB786_787.out; have hnc9 := NB787_786.out; obtain ⟨hcz10_0, hcz10_1, hcz10_2, hfz10_0, hfz10_1, hfz10_2⟩ := zq3 BK786) | ((with_reducible refine gate_callee (f := 22) rfl ?_); refine goesL_ (some 8) rfl rfl Try.func22 (by kernel_rfl) rfl #[.agg #[.int .i64 a0_0, .int .i64 a0_1, .slice A0_2 l0_2.length c0_2]] rfl (by (try simp only [List.map_toArray, List.map_cons, List.map_nil]); first | done | rfl | (simp only [List.length_drop, List.length_take]; rfl)) ?_; (with_reducible refine (raster_Check.calls k a0_0 a0_1 _ _ l0_2 t788 _ ?side1 ?side2 A3.out).mono ?_); (case side1 => repeat (first | exact (Kd.C_below HR0_2.out HB.out) | (with_reducible refine Kd.C_alloc ?_ _) | (with_reducible refine Kd.C_drewN ?_ _) | (with_reducible refine Kd.C_drew ?_))); (case side2 => exact HC0_2.out); rintro e w11 ⟨rfl, hb⟩; refine ⟨_, rfl, ?_⟩; replace BK786 := zk BK786 hb; replace BK787 := zk BK787 hb; replace HB := zb HB hb; (try clear hb); (try clear hb2); (try clear hk); (try clear hi); obtain ⟨hcz12_0, hcz12_1, hcz12_2, hfz12_0, hfz12_1, hfz12_2⟩ := zq3 BK786) | ((with_reducible refine gate_callee (f := 41) rfl ?_); refine goesL_ (some 21) rfl rfl Try.func41 (by kernel_rfl) rfl #[.int .i64 a0_0, .int .i64 a0_1, .func (.func 42) #[] #[.pointer (some ⟨gb786, 0, none⟩)]] rfl (by (try simp only [List.map_toArray, List.map_cons, List.map_nil]); first | done | rfl | (simp only [List.length_drop, List.length_take]; rfl)) ?_; (with_reducible refine (raster_fill__raster_Flip_1.calls k a0_0 a0_1 gb786 a0_0 a0_1 A0_2 c0_2 l0_2 t789 t790 t791 _ ?side1 ?side2 ?side3 A6.out).mono ?_); (case side1 => exact zk0 BK786); (case side2 => repeat (first | exact (Kd.C_below HR0_2.out HB.out) | (with_reducible refine Kd.C_alloc ?_ _) | (with_reducible refine Kd.C_drewN ?_ _) | (with_reducible refine Kd.C_drew ?_))); (case side3 => exact HC0_2.out); rintro e w13 ⟨v792, rfl, ho0, hb⟩; refine ⟨_, rfl, ?_⟩; have HO793 := zl HB ho0; replace BK786 := zk BK786 hb; replace BK787 := zk BK787 hb; replace HB := zb HB hb; (try clear hb); (try clear hb2); (try clear hk); (try clear hi); (try clear ho0); obtain ⟨hcz14_0, hcz14_1, hcz14_2, hfz14_0, hfz14_1, hfz14_2⟩ := zq3 BK787; obtain ⟨Ao15, co15, eo15⟩ := Kd.R_slice HO793.out; subst eo15))
   refine bodyPost_ret (results_ct rfl _ _ gb787 24 #[.int .i64 t789, .int .i64 t790, .slice Ao15 t791.length co15] (0, 0) _ rfl (by exact zp BK787 rfl) Try.underlying24 rfl (by kernel_rfl)) rfl ?_
   exact ⟨_, by first | rfl | (simp [errW_none, errW_some] <;> rfl) | (simp [*, errW_none, errW_some] <;> rfl), by exact zro HO793 BK787 (by decide), by exact zbo HB GE787⟩
  ·rw [if_neg c5] at H
   have c5b0 : (a1 == 1) = false := beq_eq_false_iff_ne.mpr c5
   have c5b1 : (a1 != 1) = true := bne_iff_ne.mpr c5
   by_cases c16 : a1 = 2
   ·rw [if_pos c16] at H
    have c16b0 : (a1 == 2) = true := beq_iff_eq.mpr c16
    have c16b1 : (a1 != 2) = false := bne_eq_false_iff_eq.mpr c16
    clear c16
    replace H := Option.bind_eq_some_iff.mp H
    obtain ⟨⟨t794, t795, t796⟩, A170, H⟩ := H
    replace H : (some (t794, t795, t796, 0)) = some (r1, r2, r3, r4) := H
    have A17 := Aside0.mk A170
    clear A170
    simp only [Option.some.injEq, Prod.mk.injEq] at H
    obtain ⟨rfl, rfl, rfl, rfl⟩ := H
    go_enter Try.func21, Try.ntmps21
    go_wp2_with (first | ((with_reducible refine gate_dst (N := 2) rfl ?_); refine box_event ?hg (N := 2) ?hd (cs := #[.int .i64 a0_0, .int .i64 a0_1, .slice A0_2 l0_2.length c0_2]) (t := 24) ?hr ?_; (case hd => rfl); (case hg => rfl); (case hr => first | (go_simp; done) | (go_simp; rfl)); intro gb786 hg w18 hbox hb; have GW786 := zg HB hg; have GE786 := zg HB hg; have n0_ := Aside0.mk (hbox); replace HB := zb HB hb; have BK786 := n0_; clear n0_; clear hb hbox hg) | ((with_reducible refine gate_dst (N := 4) rfl ?_); refine box_event ?hg (N := 4) ?hd (cs := #[.int .i64 0, .int .i64 0, .slice none 0 0]) (t := 24) ?hr ?_; (case hd => rfl); (case hg => rfl); (case hr => first | (go_simp; done) | (go_simp; rfl)); intro gb787 hg w19 hbox hb; have GW787 := zg HB hg; have GE787 := zg HB hg; have NB786_787 := zn BK786 hg; have NB787_786 := zn' BK786 hg; have n0_ := Aside0.mk (hbox); replace BK786 := zk BK786 hb; replace HB := zb HB hb; have BK787 := n0_; clear n0_; clear hb hbox hg; have hnb20 := NB786_787.out; have hnc20 := NB787_786.out; obtain ⟨hcz21_0, hcz21_1, hcz21_2, hfz21_0, hfz21_1, hfz21_2⟩ := zq3 BK786) | ((with_reducible refine gate_callee (f := 22) rfl ?_); refine goesL_ (some 8) rfl rfl Try.func22 (by kernel_rfl) rfl #[.agg #[.int .i64 a0_0, .int .i64 a0_1, .slice A0_2 l0_2.length c0_2]] rfl (by (try simp only [List.map_toArray, List.map_cons, List.map_nil]); first | done | rfl | (simp only [List.length_drop, List.length_take]; rfl)) ?_; (with_reducible refine (raster_Check.calls k a0_0 a0_1 _ _ l0_2 t788 _ ?side1 ?side2 A3.out).mono ?_); (case side1 => repeat (first | exact (Kd.C_below HR0_2.out HB.out) | (with_reducible refine Kd.C_alloc ?_ _) | (with_reducible refine Kd.C_drewN ?_ _) | (with_reducible refine Kd.C_drew ?_))); (case side2 => exact HC0_2.out); rintro e w22 ⟨rfl, hb⟩; refine ⟨_, rfl, ?_⟩; replace BK786 := zk BK786 hb; replace BK787 := zk BK787 hb; replace HB := zb HB hb; (try clear hb); (try clear hb2); (try clear hk); (try clear hi); obtain ⟨hcz23_0, hcz23_1, hcz23_2, hfz23_0, hfz23_1, hfz23_2⟩ := zq3 BK786) | ((with_reducible refine gate_callee (f := 41) rfl ?_); refine goesL_ (some 29) rfl rfl Try.func41 (by kernel_rfl) rfl #[.int .i64 a0_0, .int .i64 a0_1, .func (.func 44) #[] #[.pointer (some ⟨gb786, 0, none⟩)]] rfl (by (try simp only [List.map_toArray, List.map_cons, List.map_nil]); first | done | rfl | (simp only [List.length_drop, List.length_take]; rfl)) ?_; (with_reducible refine (raster_fill__raster_Flip_2.calls k a0_0 a0_1 gb786 a0_0 a0_1 A0_2 c0_2 l0_2 t794 t795 t796 _ ?side1 ?side2 ?side3 A17.out).mono ?_); (case side1 => exact zk0 BK786); (case side2 => repeat (first | exact (Kd.C_below HR0_2.out HB.out) | (with_reducible refine Kd.C_alloc ?_ _) | (with_reducible refine Kd.C_drewN ?_ _) | (with_reducible refine Kd.C_drew ?_))); (case side3 => exact HC0_2.out); rintro e w24 ⟨v797, rfl, ho0, hb⟩; refine ⟨_, rfl, ?_⟩; have HO798 := zl HB ho0; replace BK786 := zk BK786 hb; replace BK787 := zk BK787 hb; replace HB := zb HB hb; (try clear hb); (try clear hb2); (try clear hk); (try clear hi); (try clear ho0); obtain ⟨hcz25_0, hcz25_1, hcz25_2, hfz25_0, hfz25_1, hfz25_2⟩ := zq3 BK787; obtain ⟨Ao26, co26, eo26⟩ := Kd.R_slice HO798.out; subst eo26))
    refine bodyPost_ret (results_ct rfl _ _ gb787 24 #[.int .i64 t794, .int .i64 t795, .slice Ao26 t796.length co26] (0, 0) _ rfl (by exact zp BK787 rfl) Try.underlying24 rfl (by kernel_rfl)) rfl ?_
    exact ⟨_, by first | rfl | (simp [errW_none, errW_some] <;> rfl) | (simp [*, errW_none, errW_some] <;> rfl), by exact zro HO798 BK787 (by decide), by exact zbo HB GE787⟩
   ·rw [if_neg c16] at H
    have c16b0 : (a1 == 2) = false := beq_eq_false_iff_ne.mpr c16
    have c16b1 : (a1 != 2) = true := bne_iff_ne.mpr c16
    by_cases c27 : a1 = 3
    ·rw [if_pos c27] at H
     have c27b0 : (a1 == 3) = true := beq_iff_eq.mpr c27
     have c27b1 : (a1 != 3) = false := bne_eq_false_iff_eq.mpr c27
     clear c27
     replace H := Option.bind_eq_some_iff.mp H
     obtain ⟨⟨t799, t800, t801⟩, A280, H⟩ := H
     replace H : (some (t799, t800, t801, 0)) = some (r1, r2, r3, r4) := H
     have A28 := Aside0.mk A280
     clear A280
     simp only [Option.some.injEq, Prod.mk.injEq] at H
     obtain ⟨rfl, rfl, rfl, rfl⟩ := H
     go_enter Try.func21, Try.ntmps21
     go_wp2_with (first | ((with_reducible refine gate_dst (N := 2) rfl ?_); refine box_event ?hg (N := 2) ?hd (cs := #[.int .i64 a0_0, .int .i64 a0_1, .slice A0_2 l0_2.length c0_2]) (t := 24) ?hr ?_; (case hd => rfl); (case hg => rfl); (case hr => first | (go_simp; done) | (go_simp; rfl)); intro gb786 hg w29 hbox hb; have GW786 := zg HB hg; have GE786 := zg HB hg; have n0_ := Aside0.mk (hbox); replace HB := zb HB hb; have BK786 := n0_; clear n0_; clear hb hbox hg) | ((with_reducible refine gate_dst (N := 4) rfl ?_); refine box_event ?hg (N := 4) ?hd (cs := #[.int .i64 0, .int .i64 0, .slice none 0 0]) (t := 24) ?hr ?_; (case hd => rfl); (case hg => rfl); (case hr => first | (go_simp; done) | (go_simp; rfl)); intro gb787 hg w30 hbox hb; have GW787 := zg HB hg; have GE787 := zg HB hg; have NB786_787 := zn BK786 hg; have NB787_786 := zn' BK786 hg; have n0_ := Aside0.mk (hbox); replace BK786 := zk BK786 hb; replace HB := zb HB hb; have BK787 := n0_; clear n0_; clear hb hbox hg; have hnb31 := NB786_787.out; have hnc31 := NB787_786.out; obtain ⟨hcz32_0, hcz32_1, hcz32_2, hfz32_0, hfz32_1, hfz32_2⟩ := zq3 BK786) | ((with_reducible refine gate_callee (f := 22) rfl ?_); refine goesL_ (some 8) rfl rfl Try.func22 (by kernel_rfl) rfl #[.agg #[.int .i64 a0_0, .int .i64 a0_1, .slice A0_2 l0_2.length c0_2]] rfl (by (try simp only [List.map_toArray, List.map_cons, List.map_nil]); first | done | rfl | (simp only [List.length_drop, List.length_take]; rfl)) ?_; (with_reducible refine (raster_Check.calls k a0_0 a0_1 _ _ l0_2 t788 _ ?side1 ?side2 A3.out).mono ?_); (case side1 => repeat (first | exact (Kd.C_below HR0_2.out HB.out) | (with_reducible refine Kd.C_alloc ?_ _) | (with_reducible refine Kd.C_drewN ?_ _) | (with_reducible refine Kd.C_drew ?_))); (case side2 => exact HC0_2.out); rintro e w33 ⟨rfl, hb⟩; refine ⟨_, rfl, ?_⟩; replace BK786 := zk BK786 hb; replace BK787 := zk BK787 hb; replace HB := zb HB hb; (try clear hb); (try clear hb2); (try clear hk); (try clear hi); obtain ⟨hcz34_0, hcz34_1, hcz34_2, hfz34_0, hfz34_1, hfz34_2⟩ := zq3 BK786) | ((with_reducible refine gate_callee (f := 41) rfl ?_); refine goesL_ (some 37) rfl rfl Try.func41 (by kernel_rfl) rfl #[.int .i64 a0_1, .int .i64 a0_0, .func (.func 45) #[] #[.pointer (some ⟨gb786, 0, none⟩)]] rfl (by (try simp only [List.map_toArray, List.map_cons, List.map_nil]); first | done | rfl | (simp only [List.length_drop, List.length_take]; rfl)) ?_; (with_reducible refine (raster_fill__raster_Flip_3.calls k a0_1 a0_0 gb786 a0_0 a0_1 A0_2 c0_2 l0_2 t799 t800 t801 _ ?side1 ?side2 ?side3 A28.out).mono ?_); (case side1 => exact zk0 BK786); (case side2 => repeat (first | exact (Kd.C_below HR0_2.out HB.out) | (with_reducible refine Kd.C_alloc ?_ _) | (with_reducible refine Kd.C_drewN ?_ _) | (with_reducible refine Kd.C_drew ?_))); (case side3 => exact HC0_2.out); rintro e w35 ⟨v802, rfl, ho0, hb⟩; refine ⟨_, rfl, ?_⟩; have HO803 := zl HB ho0; replace BK786 := zk BK786 hb; replace BK787 := zk BK787 hb; replace HB := zb HB hb; (try clear hb); (try clear hb2); (try clear hk); (try clear hi); (try clear ho0); obtain ⟨hcz36_0, hcz36_1, hcz36_2, hfz36_0, hfz36_1, hfz36_2⟩ := zq3 BK787; obtain ⟨Ao37, co37, eo37⟩ := Kd.R_slice HO803.out; subst eo37))
     refine bodyPost_ret (results_ct rfl _ _ gb787 24 #[.int .i64 t799, .int .i64 t800, .slice Ao37 t801.length co37] (0, 0) _ rfl (by exact zp BK787 rfl) Try.underlying24 rfl (by kernel_rfl)) rfl ?_
     exact ⟨_, by first | rfl | (simp [errW_none, errW_some] <;> rfl) | (simp [*, errW_none, errW_some] <;> rfl), by exact zro HO803 BK787 (by decide), by exact zbo HB GE787⟩
    ·rw [if_neg c27] at H
     have c27b0 : (a1 == 3) = false := beq_eq_false_iff_ne.mpr c27
     have c27b1 : (a1 != 3) = true := bne_iff_ne.mpr c27
     by_cases c38 : a1 = 4
     ·rw [if_pos c38] at H
      have c38b0 : (a1 == 4) = true := beq_iff_eq.mpr c38
      have c38b1 : (a1 != 4) = false := bne_eq_false_iff_eq.mpr c38
      clear c38
      replace H := Option.bind_eq_some_iff.mp H
      obtain ⟨⟨t804, t805, t806⟩, A390, H⟩ := H
      replace H : (some (t804, t805, t806, 0)) = some (r1, r2, r3, r4) := H
      have A39 := Aside0.mk A390
      clear A390
      simp only [Option.some.injEq, Prod.mk.injEq] at H
      obtain ⟨rfl, rfl, rfl, rfl⟩ := H
      go_enter Try.func21, Try.ntmps21
      go_wp2_with (first | ((with_reducible refine gate_dst (N := 2) rfl ?_); refine box_event ?hg (N := 2) ?hd (cs := #[.int .i64 a0_0, .int .i64 a0_1, .slice A0_2 l0_2.length c0_2]) (t := 24) ?hr ?_; (case hd => rfl); (case hg => rfl); (case hr => first | (go_simp; done) | (go_simp; rfl)); intro gb786 hg w40 hbox hb; have GW786 := zg HB hg; have GE786 := zg HB hg; have n0_ := Aside0.mk (hbox); replace HB := zb HB hb; have BK786 := n0_; clear n0_; clear hb hbox hg) | ((with_reducible refine gate_dst (N := 4) rfl ?_); refine box_event ?hg (N := 4) ?hd (cs := #[.int .i64 0, .int .i64 0, .slice none 0 0]) (t := 24) ?hr ?_; (case hd => rfl); (case hg => rfl); (case hr => first | (go_simp; done) | (go_simp; rfl)); intro gb787 hg w41 hbox hb; have GW787 := zg HB hg; have GE787 := zg HB hg; have NB786_787 := zn BK786 hg; have NB787_786 := zn' BK786 hg; have n0_ := Aside0.mk (hbox); replace BK786 := zk BK786 hb; replace HB := zb HB hb; have BK787 := n0_; clear n0_; clear hb hbox hg; have hnb42 := NB786_787.out; have hnc42 := NB787_786.out; obtain ⟨hcz43_0, hcz43_1, hcz43_2, hfz43_0, hfz43_1, hfz43_2⟩ := zq3 BK786) | ((with_reducible refine gate_callee (f := 22) rfl ?_); refine goesL_ (some 8) rfl rfl Try.func22 (by kernel_rfl) rfl #[.agg #[.int .i64 a0_0, .int .i64 a0_1, .slice A0_2 l0_2.length c0_2]] rfl (by (try simp only [List.map_toArray, List.map_cons, List.map_nil]); first | done | rfl | (simp only [List.length_drop, List.length_take]; rfl)) ?_; (with_reducible refine (raster_Check.calls k a0_0 a0_1 _ _ l0_2 t788 _ ?side1 ?side2 A3.out).mono ?_); (case side1 => repeat (first | exact (Kd.C_below HR0_2.out HB.out) | (with_reducible refine Kd.C_alloc ?_ _) | (with_reducible refine Kd.C_drewN ?_ _) | (with_reducible refine Kd.C_drew ?_))); (case side2 => exact HC0_2.out); rintro e w44 ⟨rfl, hb⟩; refine ⟨_, rfl, ?_⟩; replace BK786 := zk BK786 hb; replace BK787 := zk BK787 hb; replace HB := zb HB hb; (try clear hb); (try clear hb2); (try clear hk); (try clear hi); obtain ⟨hcz45_0, hcz45_1, hcz45_2, hfz45_0, hfz45_1, hfz45_2⟩ := zq3 BK786) | ((with_reducible refine gate_callee (f := 41) rfl ?_); refine goesL_ (some 45) rfl rfl Try.func41 (by kernel_rfl) rfl #[.int .i64 a0_0, .int .i64 a0_1, .func (.func 46) #[] #[.pointer (some ⟨gb786, 0, none⟩)]] rfl (by (try simp only [List.map_toArray, List.map_cons, List.map_nil]); first | done | rfl | (simp only [List.length_drop, List.length_take]; rfl)) ?_; (with_reducible refine (raster_fill__raster_Flip_4.calls k a0_0 a0_1 gb786 a0_0 a0_1 A0_2 c0_2 l0_2 t804 t805 t806 _ ?side1 ?side2 ?side3 A39.out).mono ?_); (case side1 => exact zk0 BK786); (case side2 => repeat (first | exact (Kd.C_below HR0_2.out HB.out) | (with_reducible refine Kd.C_alloc ?_ _) | (with_reducible refine Kd.C_drewN ?_ _) | (with_reducible refine Kd.C_drew ?_))); (case side3 => exact HC0_2.out); rintro e w46 ⟨v807, rfl, ho0, hb⟩; refine ⟨_, rfl, ?_⟩; have HO808 := zl HB ho0; replace BK786 := zk BK786 hb; replace BK787 := zk BK787 hb; replace HB := zb HB hb; (try clear hb); (try clear hb2); (try clear hk); (try clear hi); (try clear ho0); obtain ⟨hcz47_0, hcz47_1, hcz47_2, hfz47_0, hfz47_1, hfz47_2⟩ := zq3 BK787; obtain ⟨Ao48, co48, eo48⟩ := Kd.R_slice HO808.out; subst eo48))
      refine bodyPost_ret (results_ct rfl _ _ gb787 24 #[.int .i64 t804, .int .i64 t805, .slice Ao48 t806.length co48] (0, 0) _ rfl (by exact zp BK787 rfl) Try.underlying24 rfl (by kernel_rfl)) rfl ?_
      exact ⟨_, by first | rfl | (simp [errW_none, errW_some] <;> rfl) | (simp [*, errW_none, errW_some] <;> rfl), by exact zro HO808 BK787 (by decide), by exact zbo HB GE787⟩
     ·rw [if_neg c38] at H
      have c38b0 : (a1 == 4) = false := beq_eq_false_iff_ne.mpr c38
      have c38b1 : (a1 != 4) = true := bne_iff_ne.mpr c38
      simp only [Option.some.injEq, Prod.mk.injEq] at H
      obtain ⟨rfl, rfl, rfl, rfl⟩ := H
      go_enter Try.func21, Try.ntmps21
      go_wp2_with (first | ((with_reducible refine gate_dst (N := 2) rfl ?_); refine box_event ?hg (N := 2) ?hd (cs := #[.int .i64 a0_0, .int .i64 a0_1, .slice A0_2 l0_2.length c0_2]) (t := 24) ?hr ?_; (case hd => rfl); (case hg => rfl); (case hr => first | (go_simp; done) | (go_simp; rfl)); intro gb786 hg w49 hbox hb; have GW786 := zg HB hg; have GE786 := zg HB hg; have n0_ := Aside0.mk (hbox); replace HB := zb HB hb; have BK786 := n0_; clear n0_; clear hb hbox hg) | ((with_reducible refine gate_dst (N := 4) rfl ?_); refine box_event ?hg (N := 4) ?hd (cs := #[.int .i64 0, .int .i64 0, .slice none 0 0]) (t := 24) ?hr ?_; (case hd => rfl); (case hg => rfl); (case hr => first | (go_simp; done) | (go_simp; rfl)); intro gb787 hg w50 hbox hb; have GW787 := zg HB hg; have GE787 := zg HB hg; have NB786_787 := zn BK786 hg; have NB787_786 := zn' BK786 hg; have n0_ := Aside0.mk (hbox); replace BK786 := zk BK786 hb; replace HB := zb HB hb; have BK787 := n0_; clear n0_; clear hb hbox hg; have hnb51 := NB786_787.out; have hnc51 := NB787_786.out; obtain ⟨hcz52_0, hcz52_1, hcz52_2, hfz52_0, hfz52_1, hfz52_2⟩ := zq3 BK786) | ((with_reducible refine gate_callee (f := 22) rfl ?_); refine goesL_ (some 8) rfl rfl Try.func22 (by kernel_rfl) rfl #[.agg #[.int .i64 a0_0, .int .i64 a0_1, .slice A0_2 l0_2.length c0_2]] rfl (by (try simp only [List.map_toArray, List.map_cons, List.map_nil]); first | done | rfl | (simp only [List.length_drop, List.length_take]; rfl)) ?_; (with_reducible refine (raster_Check.calls k a0_0 a0_1 _ _ l0_2 t788 _ ?side1 ?side2 A3.out).mono ?_); (case side1 => repeat (first | exact (Kd.C_below HR0_2.out HB.out) | (with_reducible refine Kd.C_alloc ?_ _) | (with_reducible refine Kd.C_drewN ?_ _) | (with_reducible refine Kd.C_drew ?_))); (case side2 => exact HC0_2.out); rintro e w53 ⟨rfl, hb⟩; refine ⟨_, rfl, ?_⟩; replace BK786 := zk BK786 hb; replace BK787 := zk BK787 hb; replace HB := zb HB hb; (try clear hb); (try clear hb2); (try clear hk); (try clear hi); obtain ⟨hcz54_0, hcz54_1, hcz54_2, hfz54_0, hfz54_1, hfz54_2⟩ := zq3 BK787))
      refine bodyPost_ret (results_ct rfl _ _ gb787 24 #[.int .i64 0, .int .i64 0, .slice none 0 0] (0, 0) _ rfl (by exact zp BK787 rfl) Try.underlying24 rfl (by kernel_rfl)) rfl ?_
      exact ⟨_, by first | rfl | (simp [errW_none, errW_some] <;> rfl) | (simp [*, errW_none, errW_some] <;> rfl), by first | exact Kd.R_nil _ _ _ _ _ | exact Kd.N_nil _ _ _ _ _ | exact Kd.V_nil _ _ _ _ _ | exact Kd.Q_nil _ _ _ _ _ | exact Kd.S_nil _ _ _ _ _, by exact zbo HB GE787⟩
 ·rw [if_neg c4] at H
  have c4b0 : (t788 == 0) = false := beq_eq_false_iff_ne.mpr c4
  have c4b1 : (t788 != 0) = true := bne_iff_ne.mpr c4
  simp only [Option.some.injEq, Prod.mk.injEq] at H
  obtain ⟨rfl, rfl, rfl, rfl⟩ := H
  go_enter Try.func21, Try.ntmps21
  go_wp2_with (first | ((with_reducible refine gate_dst (N := 2) rfl ?_); refine box_event ?hg (N := 2) ?hd (cs := #[.int .i64 a0_0, .int .i64 a0_1, .slice A0_2 l0_2.length c0_2]) (t := 24) ?hr ?_; (case hd => rfl); (case hg => rfl); (case hr => first | (go_simp; done) | (go_simp; rfl)); intro gb786 hg w55 hbox hb; have GW786 := zg HB hg; have GE786 := zg HB hg; have n0_ := Aside0.mk (hbox); replace HB := zb HB hb; have BK786 := n0_; clear n0_; clear hb hbox hg) | ((with_reducible refine gate_dst (N := 4) rfl ?_); refine box_event ?hg (N := 4) ?hd (cs := #[.int .i64 0, .int .i64 0, .slice none 0 0]) (t := 24) ?hr ?_; (case hd => rfl); (case hg => rfl); (case hr => first | (go_simp; done) | (go_simp; rfl)); intro gb787 hg w56 hbox hb; have GW787 := zg HB hg; have GE787 := zg HB hg; have NB786_787 := zn BK786 hg; have NB787_786 := zn' BK786 hg; have n0_ := Aside0.mk (hbox); replace BK786 := zk BK786 hb; replace HB := zb HB hb; have BK787 := n0_; clear n0_; clear hb hbox hg; have hnb57 := NB786_787.out; have hnc57 := NB787_786.out; obtain ⟨hcz58_0, hcz58_1, hcz58_2, hfz58_0, hfz58_1, hfz58_2⟩ := zq3 BK786) | ((with_reducible refine gate_callee (f := 22) rfl ?_); refine goesL_ (some 8) rfl rfl Try.func22 (by kernel_rfl) rfl #[.agg #[.int .i64 a0_0, .int .i64 a0_1, .slice A0_2 l0_2.length c0_2]] rfl (by (try simp only [List.map_toArray, List.map_cons, List.map_nil]); first | done | rfl | (simp only [List.length_drop, List.length_take]; rfl)) ?_; (with_reducible refine (raster_Check.calls k a0_0 a0_1 _ _ l0_2 t788 _ ?side1 ?side2 A3.out).mono ?_); (case side1 => repeat (first | exact (Kd.C_below HR0_2.out HB.out) | (with_reducible refine Kd.C_alloc ?_ _) | (with_reducible refine Kd.C_drewN ?_ _) | (with_reducible refine Kd.C_drew ?_))); (case side2 => exact HC0_2.out); rintro e w59 ⟨rfl, hb⟩; refine ⟨_, rfl, ?_⟩; replace BK786 := zk BK786 hb; replace BK787 := zk BK787 hb; replace HB := zb HB hb; (try clear hb); (try clear hb2); (try clear hk); (try clear hi); obtain ⟨hcz60_0, hcz60_1, hcz60_2, hfz60_0, hfz60_1, hfz60_2⟩ := zq3 BK787))
  refine bodyPost_ret (results_ct rfl _ _ gb787 24 #[.int .i64 0, .int .i64 0, .slice none 0 0] (0, 0) _ rfl (by exact zp BK787 rfl) Try.underlying24 rfl (by kernel_rfl)) rfl ?_
  exact ⟨_, by first | rfl | (simp [errW_none, errW_some] <;> rfl) | (simp [*, errW_none, errW_some] <;> rfl), by first | exact Kd.R_nil _ _ _ _ _ | exact Kd.N_nil _ _ _ _ _ | exact Kd.V_nil _ _ _ _ _ | exact Kd.Q_nil _ _ _ _ _ | exact Kd.S_nil _ _ _ _ _, by exact zbo HB GE787⟩

end Go.Proofs.Ytmmncannibnklaa.G
