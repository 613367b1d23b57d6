-- Written by a program of this session (wip/gx.py over the kit's print); Lean checks it.
import Derived.Test.YtjepbimgddgijaaG0
import Derived.Test.YtjepbimgddgijaaG3
import Derived.Test.YtjepbimgddgijaaG4
import Derived.Test.YtjepbimgddgijaaG5
import Derived.Test.YtjepbimgddgijaaG13
namespace Go.Proofs.Ytjepbimgddgijaa.G
open Go.RowKit Go.Proofs.YtjepbimgddgijaaW.PrintWords Go.Proofs.YtjepbimgddgijaaW.PrintLast Go.Proofs.YtjepbimgddgijaaW.PrintMore
attribute [local go_sem] max2_int min2_int max_two min_two max_three min_three max_four min_four   -- for this text's walks alone
set_option linter.unusedVariables false
set_option linter.unusedSimpArgs false

/-! ### imageeditorref11_Check: function 19 -/
mutual
def imageeditorref11_Check.j0 : Nat → Bool → Int → Int → List (S26) → Option (Int)
 | 0, _, _, _, _ => none
 | k + 1, x21, x511000, x511001, x511002 => if x21 = true then (some 15) else (if ((x511000 == 0) != (x511001 == 0)) = true then (imageeditorref11_Check.j1 k true x511000 x511001 x511002) else (imageeditorref11_Check.j1 k ((x511002.length : Int) != (wrap64 (x511000 * x511001))) x511000 x511001 x511002))
def imageeditorref11_Check.j1 : Nat → Bool → Int → Int → List (S26) → Option (Int)
 | 0, _, _, _, _ => none
 | k + 1, x39, x511000, x511001, x511002 => if x39 = true then (some 15) else (imageeditorref11_Check.l0 k 0 x511000 x511001 x511002)
def imageeditorref11_Check.l0 : Nat → Int → Int → Int → List (S26) → Option (Int)
 | 0, _, _, _, _ => none
 | k + 1, x3, x511000, x511001, x511002 => if x3 < (x511002.length : Int) then (if 0 ≤ x3 then ((imageeditorref06_Valid.f ((rd_T26 x511002 x3).f0) ((rd_T26 x511002 x3).f1) ((rd_T26 x511002 x3).f2) ((rd_T26 x511002 x3).f3)).bind fun t512 => (if t512 = true then (imageeditorref11_Check.l0 k (wrap64 (x3 + 1)) x511000 x511001 x511002) else (some 2))) else (none)) else (some 0)
end
def imageeditorref11_Check.f (k : Nat) (a0_0 : Int) (a0_1 : Int) (l0_2 : List (S26)) : Option (Int) := if a0_0 < 0 then (imageeditorref11_Check.j0 k true a0_0 a0_1 l0_2) else (if a0_0 > 256 then (imageeditorref11_Check.j0 k true a0_0 a0_1 l0_2) else (if a0_1 < 0 then (imageeditorref11_Check.j0 k true a0_0 a0_1 l0_2) else (imageeditorref11_Check.j0 k (decide (a0_1 > 256)) a0_0 a0_1 l0_2)))
theorem imageeditorref11_Check.mono_l : ∀ k, (∀ y0 y1 y2 y3, LeO (imageeditorref11_Check.j0 k y0 y1 y2 y3) (imageeditorref11_Check.j0 (k + 1) y0 y1 y2 y3)) ∧ (∀ y0 y1 y2 y3, LeO (imageeditorref11_Check.j1 k y0 y1 y2 y3) (imageeditorref11_Check.j1 (k + 1) y0 y1 y2 y3)) ∧ (∀ y0 y1 y2 y3, LeO (imageeditorref11_Check.l0 k y0 y1 y2 y3) (imageeditorref11_Check.l0 (k + 1) y0 y1 y2 y3))
 | 0 => ⟨fun _ _ _ _ r h => by simp [imageeditorref11_Check.j0] at h, fun _ _ _ _ r h => by simp [imageeditorref11_Check.j1] at h, fun _ _ _ _ r h => by simp [imageeditorref11_Check.l0] at h⟩
 | k + 1 => by
  obtain ⟨ih0, ih1, ih2⟩ := imageeditorref11_Check.mono_l k
  refine ⟨?_, ?_, ?_⟩
  ·intro y0 y1 y2 y3
   unfold imageeditorref11_Check.j0
   repeat' first
   | (with_reducible exact ih0 _ _ _ _)
   | (with_reducible exact ih1 _ _ _ _)
   | (with_reducible exact ih2 _ _ _ _)
   | (with_reducible exact LeO.refl _)
   | (with_reducible exact LeO.none _)
   | (with_reducible refine LeO.ite ?_ ?_)
   | (with_reducible refine LeO.bind ?_ (fun _ => ?_))
   | exact ih0 _ _ _ _
   | exact ih1 _ _ _ _
   | exact ih2 _ _ _ _
   | exact LeO.none _
   | refine LeO.ite ?_ ?_
   | refine LeO.bind ?_ (fun _ => ?_)
  ·intro y0 y1 y2 y3
   unfold imageeditorref11_Check.j1
   repeat' first
   | (with_reducible exact ih0 _ _ _ _)
   | (with_reducible exact ih1 _ _ _ _)
   | (with_reducible exact ih2 _ _ _ _)
   | (with_reducible exact LeO.refl _)
   | (with_reducible exact LeO.none _)
   | (with_reducible refine LeO.ite ?_ ?_)
   | (with_reducible refine LeO.bind ?_ (fun _ => ?_))
   | exact ih0 _ _ _ _
   | exact ih1 _ _ _ _
   | exact ih2 _ _ _ _
   | exact LeO.none _
   | refine LeO.ite ?_ ?_
   | refine LeO.bind ?_ (fun _ => ?_)
  ·intro y0 y1 y2 y3
   unfold imageeditorref11_Check.l0
   repeat' first
   | (with_reducible exact ih0 _ _ _ _)
   | (with_reducible exact ih1 _ _ _ _)
   | (with_reducible exact ih2 _ _ _ _)
   | (with_reducible exact LeO.refl _)
   | (with_reducible exact LeO.none _)
   | (with_reducible refine LeO.ite ?_ ?_)
   | (with_reducible refine LeO.bind ?_ (fun _ => ?_))
   | exact ih0 _ _ _ _
   | exact ih1 _ _ _ _
   | exact ih2 _ _ _ _
   | exact LeO.none _
   | refine LeO.ite ?_ ?_
   | refine LeO.bind ?_ (fun _ => ?_)
theorem imageeditorref11_Check.mono : ∀ a0 a1 a2 k, LeO (imageeditorref11_Check.f k a0 a1 a2) (imageeditorref11_Check.f (k + 1) a0 a1 a2) := by
 intro a0 a1 a2 k
 obtain ⟨ih0, ih1, ih2⟩ := imageeditorref11_Check.mono_l k
 unfold imageeditorref11_Check.f
 repeat' first
   | (with_reducible exact ih0 _ _ _ _)
   | (with_reducible exact ih1 _ _ _ _)
   | (with_reducible exact ih2 _ _ _ _)
   | (with_reducible exact LeO.refl _)
   | (with_reducible exact LeO.none _)
   | (with_reducible refine LeO.ite ?_ ?_)
   | (with_reducible refine LeO.bind ?_ (fun _ => ?_))
   | exact ih0 _ _ _ _
   | exact ih1 _ _ _ _
   | exact ih2 _ _ _ _
   | exact LeO.none _
   | refine LeO.ite ?_ ?_
   | refine LeO.bind ?_ (fun _ => ?_)
set_option maxHeartbeats 8000000 in
set_option maxRecDepth 100000 in
theorem imageeditorref11_Check.calls (k : Nat) (a0_0 : Int) (a0_1 : Int) (A0_2 : Option Addr) (c0_2 : Nat) (l0_2 : List (S26)) (r : Int) (w : World) (hr0_2 : Kd.C k26 w A0_2 l0_2.length l0_2) (hc0_2 : l0_2.length ≤ c0_2) (h : imageeditorref11_Check.f k a0_0 a0_1 l0_2 = some r) :
  Calls Try.prog 19 #[.agg #[.int .i64 a0_0, .int .i64 a0_1, .slice A0_2 l0_2.length c0_2]] w fun e w' => e = .returned (.int .i64 r) ∧ Below w.heap.size w w' := by
 have hu24 := Try.underlying24
 have hu26 := Try.underlying26
 have HR0_2 := Aside0.mk hr0_2
 have HC0_2 := Aside0.mk hc0_2
 clear hr0_2 hc0_2
 have HB := Aside0.mk (Below.refl w.heap.size w)
 have H : (if a0_0 < 0 then (imageeditorref11_Check.j0 k true a0_0 a0_1 l0_2) else (if a0_0 > 256 then (imageeditorref11_Check.j0 k true a0_0 a0_1 l0_2) else (if a0_1 < 0 then (imageeditorref11_Check.j0 k true a0_0 a0_1 l0_2) else (imageeditorref11_Check.j0 k (decide (a0_1 > 256)) a0_0 a0_1 l0_2)))) = some r := h
 clear h
 have HC2 := Aside0.mk H
 clear H
 go_enter Try.func19, Try.ntmps19
 go_upto_region 1 with (first | ((with_reducible refine gate_dst (N := 1) rfl ?_); (try (refine gate_guard (by rfl) ?_; dsimp only)); refine box_event ?hg (N := 1) ?hd (cs := #[.int .i64 a0_0, .int .i64 a0_1, .slice A0_2 l0_2.length c0_2]) (t := 24) ?hr ?_; (case hd => rfl); (case hg => rfl); (case hr => first | (go_simp; done) | (go_simp; rfl)); intro gb510 hg w3 hbox hb; have GW510 := zg HB hg; have GE510 := zg HB hg; have n0_ := Aside0.mk (hbox); replace HB := zb HB hb; have BK510 := n0_; clear n0_; clear hb hbox hg))
 (try simp only [Act.put, sA, sB, sC])
 go_cut [21] (fun v21 wc => ∃ (kq : Nat) (x21_1 : Bool), v21 = .bool x21_1 ∧ Aside0 (imageeditorref11_Check.j0 kq x21_1 a0_0 a0_1 l0_2 = some r) ∧ Aside0 (kq ≤ k) ∧ Aside0 (wc.heap[gb510]? = some (.cells #[.int .i64 a0_0, .int .i64 a0_1, (.slice A0_2 l0_2.length c0_2)] 24 (0, 0))) ∧ Aside0 (Below w.heap.size w wc))
 case first =>
  have H := HC2.out
  clear HC2
  by_cases c4 : a0_0 < 0
  ·rw [if_pos c4] at H
   have c4b0 : decide (a0_0 < 0) = true := decide_eq_true c4
   clear c4
   (first | rw [c4b0] | (simp only [i64_w, i32_w]; rw [c4b0]) | skip)
   have H' := Aside0.mk H
   clear H
   obtain ⟨hcz5_0, hcz5_1, hcz5_2, hfz5_0, hfz5_1, hfz5_2⟩ := zq3 BK510
   go_wp2
   go_meet
   case rel => exact ⟨_, (true), (by first | rfl | (simp; done) | (simp [*]; done)), H', ⟨by first | omega | exact Nat.le_refl _⟩, ⟨by exact zk0 BK510⟩, ⟨by exact zb0 HB⟩⟩
  ·rw [if_neg c4] at H
   have c4b0 : decide (a0_0 < 0) = false := decide_eq_false c4
   clear c4
   (first | rw [c4b0] | (simp only [i64_w, i32_w]; rw [c4b0]) | skip)
   by_cases c6 : a0_0 > 256
   ·rw [if_pos c6] at H
    have c6b0 : decide (256 < a0_0) = true := decide_eq_true c6
    clear c6
    have H' := Aside0.mk H
    clear H
    obtain ⟨hcz7_0, hcz7_1, hcz7_2, hfz7_0, hfz7_1, hfz7_2⟩ := zq3 BK510
    go_wp2
    go_meet
    case rel => exact ⟨_, (true), (by first | rfl | (simp; done) | (simp [*]; done)), H', ⟨by first | omega | exact Nat.le_refl _⟩, ⟨by exact zk0 BK510⟩, ⟨by exact zb0 HB⟩⟩
   ·rw [if_neg c6] at H
    have c6b0 : decide (256 < a0_0) = false := decide_eq_false c6
    clear c6
    by_cases c8 : a0_1 < 0
    ·rw [if_pos c8] at H
     have c8b0 : decide (a0_1 < 0) = true := decide_eq_true c8
     clear c8
     have H' := Aside0.mk H
     clear H
     obtain ⟨hcz9_0, hcz9_1, hcz9_2, hfz9_0, hfz9_1, hfz9_2⟩ := zq3 BK510
     go_wp2
     go_meet
     case rel => exact ⟨_, (true), (by first | rfl | (simp; done) | (simp [*]; done)), H', ⟨by first | omega | exact Nat.le_refl _⟩, ⟨by exact zk0 BK510⟩, ⟨by exact zb0 HB⟩⟩
    ·rw [if_neg c8] at H
     have c8b0 : decide (a0_1 < 0) = false := decide_eq_false c8
     clear c8
     have H' := Aside0.mk H
     clear H
     obtain ⟨hcz10_0, hcz10_1, hcz10_2, hfz10_0, hfz10_1, hfz10_2⟩ := zq3 BK510
     go_wp2
     go_meet
     case rel => exact ⟨_, (decide (a0_1 > 256)), (by first | rfl | (simp; done) | (simp [*]; done)), H', ⟨by first | omega | exact Nat.le_refl _⟩, ⟨by exact zk0 BK510⟩, ⟨by exact zb0 HB⟩⟩
 case rest =>
  clear HC2
  try clear c1
  try clear p2
  try clear q3
  try clear c4
  try clear c4b0
  try clear c6
  try clear c6b0
  try clear c8
  try clear c8b0
  try clear hcz10_0
  try clear hcz10_1
  try clear hcz10_2
  try clear hcz5_0
  try clear hcz5_1
  try clear hcz5_2
  try clear hcz7_0
  try clear hcz7_1
  try clear hcz7_2
  try clear hcz9_0
  try clear hcz9_1
  try clear hcz9_2
  try clear hfz10_0
  try clear hfz10_1
  try clear hfz10_2
  try clear hfz5_0
  try clear hfz5_1
  try clear hfz5_2
  try clear hfz7_0
  try clear hfz7_1
  try clear hfz7_2
  try clear hfz9_0
  try clear hfz9_1
  try clear hfz9_2
  obtain ⟨kq, x21_1, rfl, HA, HJ1, BK510, HB⟩ := hcut
  cases kq with
  | zero => exact absurd HA.out (by simp [imageeditorref11_Check.j0])
  | succ kj1 =>
   have H := HA.out
   clear HA
   simp only [imageeditorref11_Check.j0] at H
   by_cases c11 : x21_1 = true
   ·subst c11
    have H1 : (some 15) = some r := by rw [if_pos rfl] at H; exact H
    clear H
    have H := H1
    clear H1
    obtain rfl := Option.some.inj H
    go_wp2
    go_ret
    exact ⟨by first | rfl | (simp [errW_none, errW_some] <;> rfl) | (simp [*, errW_none, errW_some] <;> rfl), by exact zb0 HB⟩
   ·replace c11 := Bool.eq_false_iff.mpr c11
    subst c11
    have H1 : (if ((a0_0 == 0) != (a0_1 == 0)) = true then (imageeditorref11_Check.j1 kj1 true a0_0 a0_1 l0_2) else (imageeditorref11_Check.j1 kj1 ((l0_2.length : Int) != (wrap64 (a0_0 * a0_1))) a0_0 a0_1 l0_2)) = some r := by rw [if_neg (show ¬ (false = true) by decide)] at H; exact H
    clear H
    have H := H1
    clear H1
    have HC12 := Aside0.mk H
    clear H
    go_upto_region 3 with (fail)
    go_cut [39] (fun v39 wc => ∃ (kq : Nat) (x39_11 : Bool), v39 = .bool x39_11 ∧ Aside0 (imageeditorref11_Check.j1 kq x39_11 a0_0 a0_1 l0_2 = some r) ∧ Aside0 (kq ≤ kj1) ∧ Aside0 (wc.heap[gb510]? = some (.cells #[.int .i64 a0_0, .int .i64 a0_1, (.slice A0_2 l0_2.length c0_2)] 24 (0, 0))) ∧ Aside0 (Below w.heap.size w wc))
    case first =>
     have H := HC12.out
     clear HC12
     by_cases c13 : ((a0_0 == 0) != (a0_1 == 0)) = true
     ·rw [if_pos c13] at H
      have c13b0 : ((a0_0 == 0) != (a0_1 == 0)) = true := c13
      (try (have c13b1 : decide ((a0_0 == 0) = (a0_1 == 0)) = false := by simpa using c13))
      (try (have c13b2 : ((a0_0 == 0) == (a0_1 == 0)) = false := by simpa using c13))
      (try (have c13b3 : ¬ ((a0_0 == 0) = (a0_1 == 0)) := by simpa using c13))
      clear c13
      (first | rw [c13b0] | (simp only [i64_w, i32_w]; rw [c13b0]) | skip)
      have H' := Aside0.mk H
      clear H
      obtain ⟨hcz14_0, hcz14_1, hcz14_2, hfz14_0, hfz14_1, hfz14_2⟩ := zq3 BK510
      go_wp2
      go_meet
      case rel => exact ⟨_, (true), (by first | rfl | (simp; done) | (simp [*]; done)), H', ⟨by have := HJ1.out; first | omega | exact Nat.le_refl _⟩, ⟨by exact zk0 BK510⟩, ⟨by exact zb0 HB⟩⟩
     ·rw [if_neg c13] at H
      have c13b0 : ((a0_0 == 0) != (a0_1 == 0)) = false := by simpa using c13
      (try (have c13b1 : decide ((a0_0 == 0) = (a0_1 == 0)) = true := by simpa using c13))
      (try (have c13b2 : ((a0_0 == 0) == (a0_1 == 0)) = true := by simpa using c13))
      clear c13
      (first | rw [c13b0] | (simp only [i64_w, i32_w]; rw [c13b0]) | skip)
      have H' := Aside0.mk H
      clear H
      obtain ⟨hcz15_0, hcz15_1, hcz15_2, hfz15_0, hfz15_1, hfz15_2⟩ := zq3 BK510
      go_wp2
      go_meet
      case rel => exact ⟨_, (((l0_2.length : Int) != (wrap64 (a0_0 * a0_1)))), (by first | rfl | (simp; done) | (simp [*]; done)), H', ⟨by have := HJ1.out; first | omega | exact Nat.le_refl _⟩, ⟨by exact zk0 BK510⟩, ⟨by exact zb0 HB⟩⟩
    case rest =>
     clear HC12
     try clear c1
     try clear p2
     try clear q3
     try clear c4
     try clear c4b0
     try clear c6
     try clear c6b0
     try clear p6
     try clear c8
     try clear c8b0
     try clear c11
     try clear c13
     try clear c13b0
     try clear c13b1
     try clear c13b2
     try clear hcz10_0
     try clear hcz10_1
     try clear hcz10_2
     try clear hcz14_0
     try clear hcz14_1
     try clear hcz14_2
     try clear hcz15_0
     try clear hcz15_1
     try clear hcz15_2
     try clear hcz5_0
     try clear hcz5_1
     try clear hcz5_2
     try clear hcz7_0
     try clear hcz7_1
     try clear hcz7_2
     try clear hcz9_0
     try clear hcz9_1
     try clear hcz9_2
     try clear hfz10_0
     try clear hfz10_1
     try clear hfz10_2
     try clear hfz14_0
     try clear hfz14_1
     try clear hfz14_2
     try clear hfz15_0
     try clear hfz15_1
     try clear hfz15_2
     try clear hfz5_0
     try clear hfz5_1
     try clear hfz5_2
     try clear hfz7_0
     try clear hfz7_1
     try clear hfz7_2
     try clear hfz9_0
     try clear hfz9_1
     try clear hfz9_2
     try clear p2
     try clear q3
     obtain ⟨kq, x39_11, rfl, HA, HJ11, BK510, HB⟩ := hcut
     cases kq with
     | zero => exact absurd HA.out (by simp [imageeditorref11_Check.j1])
     | succ kj11 =>
      have H := HA.out
      clear HA
      simp only [imageeditorref11_Check.j1] at H
      by_cases c16 : x39_11 = true
      ·subst c16
       have H1 : (some 15) = some r := by rw [if_pos rfl] at H; exact H
       clear H
       have H := H1
       clear H1
       obtain rfl := Option.some.inj H
       go_wp2
       go_ret
       exact ⟨by first | rfl | (simp [errW_none, errW_some] <;> rfl) | (simp [*, errW_none, errW_some] <;> rfl), by exact zb0 HB⟩
      ·replace c16 := Bool.eq_false_iff.mpr c16
       subst c16
       have H1 : (imageeditorref11_Check.l0 kj11 0 a0_0 a0_1 l0_2) = some r := by rw [if_neg (show ¬ (false = true) by decide)] at H; exact H
       clear H
       have H := H1
       clear H1
       have H' := Aside0.mk H
       clear H
       go_wp2
       go_loopg [3] kj11 (fun kq v3 w' => ∃ (x3_3 : Int), v3 = .int .i64 x3_3 ∧ Aside0 (imageeditorref11_Check.l0 kq x3_3 a0_0 a0_1 l0_2 = some r) ∧ Aside0 (kq ≤ kj11) ∧ Aside0 (w'.heap[gb510]? = some (.cells #[.int .i64 a0_0, .int .i64 a0_1, (.slice A0_2 l0_2.length c0_2)] 24 (0, 0))) ∧ Aside0 (Below w.heap.size w w'))
       case atStart => exact ⟨(0), (by first | rfl | (simp; done) | (simp [*]; done)), H', ⟨Nat.le_refl _⟩, ⟨by exact zk0 BK510⟩, ⟨by exact zb0 HB⟩⟩
       case round =>
        clear H'
        try clear c1
        try clear p2
        try clear q3
        try clear c4
        try clear c4b0
        try clear c6
        try clear c6b0
        try clear p6
        try clear c8
        try clear c8b0
        try clear c11
        try clear c13
        try clear c13b0
        try clear c13b1
        try clear c13b2
        try clear c16
        try clear hcz10_0
        try clear hcz10_1
        try clear hcz10_2
        try clear hcz14_0
        try clear hcz14_1
        try clear hcz14_2
        try clear hcz15_0
        try clear hcz15_1
        try clear hcz15_2
        try clear hcz5_0
        try clear hcz5_1
        try clear hcz5_2
        try clear hcz7_0
        try clear hcz7_1
        try clear hcz7_2
        try clear hcz9_0
        try clear hcz9_1
        try clear hcz9_2
        try clear hfz10_0
        try clear hfz10_1
        try clear hfz10_2
        try clear hfz14_0
        try clear hfz14_1
        try clear hfz14_2
        try clear hfz15_0
        try clear hfz15_1
        try clear hfz15_2
        try clear hfz5_0
        try clear hfz5_1
        try clear hfz5_2
        try clear hfz7_0
        try clear hfz7_1
        try clear hfz7_2
        try clear hfz9_0
        try clear hfz9_1
        try clear hfz9_2
        try clear p2
        try clear p6
        try clear q3
        obtain ⟨x3_3, rfl, HA, HK3, BK510, HB⟩ := hrel
        cases gk with
        | zero => exact absurd HA.out (by simp [imageeditorref11_Check.l0])
        | succ k3 =>
         have H := HA.out
         clear HA
         simp only [imageeditorref11_Check.l0] at H
         by_cases c17 : x3_3 < (l0_2.length : Int)
         ·rw [if_pos c17] at H
          have c17b0 : decide (x3_3 < (l0_2.length : Int)) = true := decide_eq_true c17
          clear c17
          by_cases c18 : 0 ≤ x3_3
          ·rw [if_pos c18] at H
           have c18b0 : decide (0 ≤ x3_3) = true := decide_eq_true c18
           clear c18
           replace H := Option.bind_eq_some_iff.mp H
           obtain ⟨t512, A190, H⟩ := H
           replace H : (if t512 = true then (imageeditorref11_Check.l0 k3 (wrap64 (x3_3 + 1)) a0_0 a0_1 l0_2) else (some 2)) = some r := H
           have A19 := Aside0.mk A190
           clear A190
           by_cases c20 : t512 = true
           ·subst c20
            have H1 : (imageeditorref11_Check.l0 k3 (wrap64 (x3_3 + 1)) a0_0 a0_1 l0_2) = some r := by rw [if_pos rfl] at H; exact H
            clear H
            have H := H1
            clear H1
            have H' := Aside0.mk H
            clear H
            obtain ⟨hcz21_0, hcz21_1, hcz21_2, hfz21_0, hfz21_1, hfz21_2⟩ := zq3 BK510
            have p511 : 0 ≤ (x3_3 : Int) := of_decide_eq_true (by first | (with_reducible assumption) | assumption)
            have q511 : x3_3 < (l0_2.length : Int) := of_decide_eq_true (by first | (with_reducible assumption) | assumption)
            obtain ⟨ad511, e511, hx511_0, hx511_1, hx511_2, hx511_3⟩ := at_T26 HR0_2.out x3_3 p511 q511
            cases e511
            replace hx511_0 := (HB.out.cell (World.block_lt_of_cell? w _ hx511_0)).trans hx511_0
            replace hx511_1 := (HB.out.cell (World.block_lt_of_cell? w _ hx511_1)).trans hx511_1
            replace hx511_2 := (HB.out.cell (World.block_lt_of_cell? w _ hx511_2)).trans hx511_2
            replace hx511_3 := (HB.out.cell (World.block_lt_of_cell? w _ hx511_3)).trans hx511_3
            replace p511 := eq_true p511
            replace q511 := eq_true q511
            go_wp2_with (first | ((with_reducible refine gate_callee (f := 42) rfl ?_); refine goesL_ (some 52) rfl rfl Try.func42 (by kernel_rfl) rfl #[.agg #[.int .i64 ((rd_T26 l0_2 x3_3).f0), .int .i64 ((rd_T26 l0_2 x3_3).f1), .int .i64 ((rd_T26 l0_2 x3_3).f2), .int .i64 ((rd_T26 l0_2 x3_3).f3)]] rfl (by (try simp only [List.map_toArray, List.map_cons, List.map_nil]); first | done | rfl | (simp only [List.length_drop, List.length_take]; rfl)) ?_; (with_reducible refine (imageeditorref06_Valid.calls ((rd_T26 l0_2 x3_3).f0) ((rd_T26 l0_2 x3_3).f1) ((rd_T26 l0_2 x3_3).f2) ((rd_T26 l0_2 x3_3).f3) true _ A19.out).mono ?_); rintro e w22 ⟨rfl, hb⟩; refine ⟨_, rfl, ?_⟩; replace BK510 := zk BK510 hb; replace HB := zb HB hb; (try clear hb); (try clear hb2); (try clear hk); (try clear hi)))
            go_roundg k3
            case measure => have := HJ1.out; have := HJ11.out; have := HK3.out; omega
            case rel => exact ⟨(wrap64 (x3_3 + 1)), (by first | rfl | (simp; done) | (simp [*]; done)), H', ⟨by have := HJ1.out; have := HJ11.out; have := HK3.out; omega⟩, ⟨by exact zk0 BK510⟩, ⟨by exact zb0 HB⟩⟩
           ·replace c20 := Bool.eq_false_iff.mpr c20
            subst c20
            have H1 : (some 2) = some r := by rw [if_neg (show ¬ (false = true) by decide)] at H; exact H
            clear H
            have H := H1
            clear H1
            obtain rfl := Option.some.inj H
            obtain ⟨hcz23_0, hcz23_1, hcz23_2, hfz23_0, hfz23_1, hfz23_2⟩ := zq3 BK510
            have p511 : 0 ≤ (x3_3 : Int) := of_decide_eq_true (by first | (with_reducible assumption) | assumption)
            have q511 : x3_3 < (l0_2.length : Int) := of_decide_eq_true (by first | (with_reducible assumption) | assumption)
            obtain ⟨ad511, e511, hx511_0, hx511_1, hx511_2, hx511_3⟩ := at_T26 HR0_2.out x3_3 p511 q511
            cases e511
            replace hx511_0 := (HB.out.cell (World.block_lt_of_cell? w _ hx511_0)).trans hx511_0
            replace hx511_1 := (HB.out.cell (World.block_lt_of_cell? w _ hx511_1)).trans hx511_1
            replace hx511_2 := (HB.out.cell (World.block_lt_of_cell? w _ hx511_2)).trans hx511_2
            replace hx511_3 := (HB.out.cell (World.block_lt_of_cell? w _ hx511_3)).trans hx511_3
            replace p511 := eq_true p511
            replace q511 := eq_true q511
            go_wp2_with (first | ((with_reducible refine gate_callee (f := 42) rfl ?_); refine goesL_ (some 52) rfl rfl Try.func42 (by kernel_rfl) rfl #[.agg #[.int .i64 ((rd_T26 l0_2 x3_3).f0), .int .i64 ((rd_T26 l0_2 x3_3).f1), .int .i64 ((rd_T26 l0_2 x3_3).f2), .int .i64 ((rd_T26 l0_2 x3_3).f3)]] rfl (by (try simp only [List.map_toArray, List.map_cons, List.map_nil]); first | done | rfl | (simp only [List.length_drop, List.length_take]; rfl)) ?_; (with_reducible refine (imageeditorref06_Valid.calls ((rd_T26 l0_2 x3_3).f0) ((rd_T26 l0_2 x3_3).f1) ((rd_T26 l0_2 x3_3).f2) ((rd_T26 l0_2 x3_3).f3) false _ A19.out).mono ?_); rintro e w24 ⟨rfl, hb⟩; refine ⟨_, rfl, ?_⟩; replace BK510 := zk BK510 hb; replace HB := zb HB hb; (try clear hb); (try clear hb2); (try clear hk); (try clear hi)))
            go_ret
            exact ⟨by first | rfl | (simp [errW_none, errW_some] <;> rfl) | (simp [*, errW_none, errW_some] <;> rfl), by exact zb0 HB⟩
          ·rw [if_neg c18] at H
           exact absurd H (by simp)
         ·rw [if_neg c17] at H
          have c17b0 : decide (x3_3 < (l0_2.length : Int)) = false := decide_eq_false c17
          clear c17
          obtain rfl := Option.some.inj H
          obtain ⟨hcz25_0, hcz25_1, hcz25_2, hfz25_0, hfz25_1, hfz25_2⟩ := zq3 BK510
          go_wp2
          go_ret
          exact ⟨by first | rfl | (simp [errW_none, errW_some] <;> rfl) | (simp [*, errW_none, errW_some] <;> rfl), by exact zb0 HB⟩

/-! ### imageeditorlaw11_RasterChecks: function 3 -/
def imageeditorlaw11_RasterChecks.f (k : Nat) (a0_0 : Int) (a0_1 : Int) (l0_2 : List (S26)) (a1 : Int) (a2 : Int) (a3_0 : Int) (a3_1 : Int) (a3_2 : Int) (a3_3 : Int) : Option (Bool) := (raster_New.f k a1 a2 a3_0 a3_1 a3_2 a3_3).bind fun bt515 => ((imageeditorref11_New.f k a1 a2 a3_0 a3_1 a3_2 a3_3).bind fun bt522 => ((imageeditorlaw11_awake.f k).bind fun t529 => (if t529 = true then ((raster_Check.f k a0_0 a0_1 l0_2).bind fun t530 => ((imageeditorref11_Check.f k a0_0 a0_1 l0_2).bind fun t531 => (if t530 = t531 then (if bt515.2.2.2 = bt522.2.2.2 then ((imageeditorlaw11_same.f k bt515.1 bt515.2.1 bt515.2.2.1 bt522.1 bt522.2.1 bt522.2.2.1).bind fun t532 => (some t532)) else (some false)) else (some false)))) else (some false))))
theorem imageeditorlaw11_RasterChecks.mono : ∀ a0 a1 a2 a3 a4 a5 a6 a7 a8 k, LeO (imageeditorlaw11_RasterChecks.f k a0 a1 a2 a3 a4 a5 a6 a7 a8) (imageeditorlaw11_RasterChecks.f (k + 1) a0 a1 a2 a3 a4 a5 a6 a7 a8) := by
 intro a0 a1 a2 a3 a4 a5 a6 a7 a8 k
 unfold imageeditorlaw11_RasterChecks.f
 repeat' first
   | (with_reducible exact imageeditorlaw11_awake.mono _)
   | (with_reducible exact imageeditorlaw11_same.mono _ _ _ _ _ _ _)
   | (with_reducible exact imageeditorref11_Check.mono _ _ _ _)
   | (with_reducible exact imageeditorref11_New.mono _ _ _ _ _ _ _)
   | (with_reducible exact raster_Check.mono _ _ _ _)
   | (with_reducible exact raster_New.mono _ _ _ _ _ _ _)
   | (with_reducible exact LeO.refl _)
   | (with_reducible exact LeO.none _)
   | (with_reducible refine LeO.ite ?_ ?_)
   | (with_reducible refine LeO.bind ?_ (fun _ => ?_))
   | exact imageeditorlaw11_awake.mono _
   | exact imageeditorlaw11_same.mono _ _ _ _ _ _ _
   | exact imageeditorref11_Check.mono _ _ _ _
   | exact imageeditorref11_New.mono _ _ _ _ _ _ _
   | exact raster_Check.mono _ _ _ _
   | exact raster_New.mono _ _ _ _ _ _ _
   | exact LeO.none _
   | refine LeO.ite ?_ ?_
   | refine LeO.bind ?_ (fun _ => ?_)
def imageeditorlaw11_RasterChecks.T3 : Bool × List (List Nat × List Nat) := (true, [([], []), ([0, 0], [0]), ([1], [1]), ([2, 1, 1], [1, 2]), ([1], [1]), ([4, 3, 1], [1, 4]), ([3, 5, 1], [1, 3, 5]), ([1, 6], [1, 6]), ([7, 5], [7]), ([8], [8]), ([8], [8]), ([9, 10, 8], [8, 9, 10]), ([8, 11], [8, 11]), ([12, 8], [12]), ([13], [13]), ([13], [13]), ([14, 15, 13, 13], [13, 14, 15]), ([13, 16], [13, 16]), ([17, 16, 0, 1, 2, 3, 4, 5, 6, 7, 8, 9, 10, 11, 12, 13, 14, 15, 16, 17], [17])])
def imageeditorlaw11_RasterChecks.B3 : List Nat := [0, 1, 3, 7, 3, 31, 63, 127, 255, 511, 511, 2047, 4095, 8191, 16383, 16383, 65535, 131071, 262143]
theorem imageeditorlaw11_RasterChecks.tab3 : rtab .any (opsOf Try.f3 3) = imageeditorlaw11_RasterChecks.T3 := by kernel_rfl
theorem imageeditorlaw11_RasterChecks.bits3 : waitsOk imageeditorlaw11_RasterChecks.T3.2 imageeditorlaw11_RasterChecks.B3 = true := by kernel_rfl
set_option maxHeartbeats 8000000 in
set_option maxRecDepth 100000 in
theorem imageeditorlaw11_RasterChecks.callsT (k : Nat) (a0_0 : Int) (a0_1 : Int) (A0_2 : Option Addr) (c0_2 : Nat) (l0_2 : List (S26)) (a1 : Int) (a2 : Int) (a3_0 : Int) (a3_1 : Int) (a3_2 : Int) (a3_3 : Int) (r : Bool) (w : World) (hr0_2 : Kd.C k26 w A0_2 l0_2.length l0_2) (hc0_2 : l0_2.length ≤ c0_2) (hT : r = true) (h : imageeditorlaw11_RasterChecks.f k a0_0 a0_1 l0_2 a1 a2 a3_0 a3_1 a3_2 a3_3 = some r) :
  Calls Try.prog 3 #[.agg #[.int .i64 a0_0, .int .i64 a0_1, .slice A0_2 l0_2.length c0_2], .int .i64 a1, .int .i64 a2, .agg #[.int .i64 a3_0, .int .i64 a3_1, .int .i64 a3_2, .int .i64 a3_3]] w fun e w' => e = .returned (.bool r) ∧ Below w.heap.size w w' := by
 have hu24 := Try.underlying24
 have hu26 := Try.underlying26
 have HT := Aside0.mk hT
 clear hT
 have HR0_2 := Aside0.mk hr0_2
 have HC0_2 := Aside0.mk hc0_2
 clear hr0_2 hc0_2
 have HB := Aside0.mk (Below.refl w.heap.size w)
 have H : ((raster_New.f k a1 a2 a3_0 a3_1 a3_2 a3_3).bind fun bt515 => ((imageeditorref11_New.f k a1 a2 a3_0 a3_1 a3_2 a3_3).bind fun bt522 => ((imageeditorlaw11_awake.f k).bind fun t529 => (if t529 = true then ((raster_Check.f k a0_0 a0_1 l0_2).bind fun t530 => ((imageeditorref11_Check.f k a0_0 a0_1 l0_2).bind fun t531 => (if t530 = t531 then (if bt515.2.2.2 = bt522.2.2.2 then ((imageeditorlaw11_same.f k bt515.1 bt515.2.1 bt515.2.2.1 bt522.1 bt522.2.1 bt522.2.2.1).bind fun t532 => (some t532)) else (some false)) else (some false)))) else (some false))))) = some r := h
 clear h
 replace H := Option.bind_eq_some_iff.mp H
 obtain ⟨⟨t515, t516, t517, t520⟩, A50, H⟩ := H
 replace H : ((imageeditorref11_New.f k a1 a2 a3_0 a3_1 a3_2 a3_3).bind fun bt522 => ((imageeditorlaw11_awake.f k).bind fun t529 => (if t529 = true then ((raster_Check.f k a0_0 a0_1 l0_2).bind fun t530 => ((imageeditorref11_Check.f k a0_0 a0_1 l0_2).bind fun t531 => (if t530 = t531 then (if t520 = bt522.2.2.2 then ((imageeditorlaw11_same.f k t515 t516 t517 bt522.1 bt522.2.1 bt522.2.2.1).bind fun t532 => (some t532)) else (some false)) else (some false)))) else (some false)))) = some r := H
 have A5 := Aside0.mk A50
 clear A50
 replace H := Option.bind_eq_some_iff.mp H
 obtain ⟨⟨t522, t523, t524, t527⟩, A60, H⟩ := H
 replace H : ((imageeditorlaw11_awake.f k).bind fun t529 => (if t529 = true then ((raster_Check.f k a0_0 a0_1 l0_2).bind fun t530 => ((imageeditorref11_Check.f k a0_0 a0_1 l0_2).bind fun t531 => (if t530 = t531 then (if t520 = t527 then ((imageeditorlaw11_same.f k t515 t516 t517 t522 t523 t524).bind fun t532 => (some t532)) else (some false)) else (some false)))) else (some false))) = some r := H
 have A6 := Aside0.mk A60
 clear A60
 replace H := Option.bind_eq_some_iff.mp H
 obtain ⟨t529, A70, H⟩ := H
 replace H : (if t529 = true then ((raster_Check.f k a0_0 a0_1 l0_2).bind fun t530 => ((imageeditorref11_Check.f k a0_0 a0_1 l0_2).bind fun t531 => (if t530 = t531 then (if t520 = t527 then ((imageeditorlaw11_same.f k t515 t516 t517 t522 t523 t524).bind fun t532 => (some t532)) else (some false)) else (some false)))) else (some false)) = some r := H
 have A7 := Aside0.mk A70
 clear A70
 by_cases c8 : t529 = true
 ·subst c8
  have H1 : ((raster_Check.f k a0_0 a0_1 l0_2).bind fun t530 => ((imageeditorref11_Check.f k a0_0 a0_1 l0_2).bind fun t531 => (if t530 = t531 then (if t520 = t527 then ((imageeditorlaw11_same.f k t515 t516 t517 t522 t523 t524).bind fun t532 => (some t532)) else (some false)) else (some false)))) = some r := by rw [if_pos rfl] at H; exact H
  clear H
  have H := H1
  clear H1
  replace H := Option.bind_eq_some_iff.mp H
  obtain ⟨t530, A90, H⟩ := H
  replace H : ((imageeditorref11_Check.f k a0_0 a0_1 l0_2).bind fun t531 => (if t530 = t531 then (if t520 = t527 then ((imageeditorlaw11_same.f k t515 t516 t517 t522 t523 t524).bind fun t532 => (some t532)) else (some false)) else (some false))) = some r := H
  have A9 := Aside0.mk A90
  clear A90
  replace H := Option.bind_eq_some_iff.mp H
  obtain ⟨t531, A100, H⟩ := H
  replace H : (if t530 = t531 then (if t520 = t527 then ((imageeditorlaw11_same.f k t515 t516 t517 t522 t523 t524).bind fun t532 => (some t532)) else (some false)) else (some false)) = some r := H
  have A10 := Aside0.mk A100
  clear A100
  by_cases c11 : t530 = t531
  ·rw [if_pos c11] at H
   have c11b0 : (t530 == t531) = true := beq_iff_eq.mpr c11
   have c11b1 : (t530 != t531) = false := bne_eq_false_iff_eq.mpr c11
   clear c11
   by_cases c12 : t520 = t527
   ·rw [if_pos c12] at H
    have c12b0 : (t520 == t527) = true := beq_iff_eq.mpr c12
    have c12b1 : (t520 != t527) = false := bne_eq_false_iff_eq.mpr c12
    clear c12
    replace H := Option.bind_eq_some_iff.mp H
    obtain ⟨t532, A130, H⟩ := H
    replace H : (some t532) = some r := H
    have A13 := Aside0.mk A130
    clear A130
    as_aux_lemma =>
     obtain rfl := Option.some.inj H
     go_enter Try.func3, Try.ntmps3
     try go_wp2_with (first | ((with_reducible refine gate_dst (N := 4) rfl ?_); refine box_event ?hg (N := 4) ?hd (cs := #[.int .i64 a0_0, .int .i64 a0_1, .slice A0_2 l0_2.length c0_2]) (t := 24) ?hr ?_; (case hd => rfl); (case hg => rfl); (case hr => first | (go_simp; done) | (go_simp; rfl)); intro gb513 hg w14 hbox hb; have GW513 := zg HB hg; have GE513 := zg HB hg; have n0_ := Aside0.mk (hbox); replace HB := zb HB hb; have BK513 := n0_; clear n0_; clear hb hbox hg) | ((with_reducible refine gate_dst (N := 7) rfl ?_); refine box_event ?hg (N := 7) ?hd (cs := #[.int .i64 a3_0, .int .i64 a3_1, .int .i64 a3_2, .int .i64 a3_3]) (t := 26) ?hr ?_; (case hd => rfl); (case hg => rfl); (case hr => first | (go_simp; done) | (go_simp; rfl)); intro gb514 hg w15 hbox hb; have GW514 := zg HB hg; have GE514 := zg HB hg; have NB513_514 := zn BK513 hg; have NB514_513 := zn' BK513 hg; have n0_ := Aside0.mk (hbox); replace BK513 := zk BK513 hb; replace HB := zb HB hb; have BK514 := n0_; clear n0_; clear hb hbox hg; have hnb16 := NB514_513.out; have hnc16 := NB513_514.out; obtain ⟨hcz17_0, hcz17_1, hcz17_2, hcz17_3, hfz17_0, hfz17_1, hfz17_2, hfz17_3⟩ := zq4 BK514) | ((with_reducible refine gate_callee (f := 15) rfl ?_); refine goesL_ (some 17) rfl rfl Try.func15 (by kernel_rfl) rfl #[.int .i64 a1, .int .i64 a2, .agg #[.int .i64 a3_0, .int .i64 a3_1, .int .i64 a3_2, .int .i64 a3_3]] rfl (by (try simp only [List.map_toArray, List.map_cons, List.map_nil]); first | done | rfl | (simp only [List.length_drop, List.length_take]; rfl)) ?_; (with_reducible refine (raster_New.calls k a1 a2 a3_0 a3_1 a3_2 a3_3 t515 t516 t517 t520 _ A5.out).mono ?_); rintro e w18 ⟨v518, rfl, ho0, hb⟩; refine ⟨_, rfl, ?_⟩; have n0_ := Aside0.mk (Kd.R_lower (Kd.R_newB ho0 (zk0 BK514)) (below_size (by exact zb0 HB))); replace BK513 := zk BK513 hb; replace BK514 := zk BK514 hb; replace HB := zb HB hb; have HO519 := n0_; clear n0_; (try clear hb); (try clear hb2); (try clear hk); (try clear hi); (try clear ho0)) | ((with_reducible refine gate_dst (N := 9) rfl ?_); refine box_event ?hg (N := 9) ?hd (cs := #[.int .i64 0, .int .i64 0, .slice none 0 0]) (t := 24) ?hr ?_; (case hd => rfl); (case hg => rfl); (case hr => first | (go_simp; done) | (go_simp; rfl)); intro gb521 hg w19 hbox hb; have GW521 := zg HB hg; have GE521 := zg HB hg; have NB513_521 := zn BK513 hg; have NB521_513 := zn' BK513 hg; have NB514_521 := zn BK514 hg; have NB521_514 := zn' BK514 hg; have n0_ := Aside0.mk (hbox); replace HO519 := zr HO519 hb; replace BK513 := zk BK513 hb; replace BK514 := zk BK514 hb; replace HB := zb HB hb; have BK521 := n0_; clear n0_; clear hb hbox hg; have hnb20 := NB521_513.out; have hnc20 := NB513_521.out; have hnb21 := NB521_514.out; have hnc21 := NB514_521.out; obtain ⟨hcz22_0, hcz22_1, hcz22_2, hfz22_0, hfz22_1, hfz22_2⟩ := zq3 BK521; obtain ⟨Ao23, co23, eo23⟩ := Kd.R_slice HO519.out; subst eo23; obtain ⟨hcz24_0, hcz24_1, hcz24_2, hcz24_3, hfz24_0, hfz24_1, hfz24_2, hfz24_3⟩ := zq4 BK514) | ((with_reducible refine gate_callee (f := 16) rfl ?_); refine goesL_ (some 24) rfl rfl Try.func16 (by kernel_rfl) rfl #[.int .i64 a1, .int .i64 a2, .agg #[.int .i64 a3_0, .int .i64 a3_1, .int .i64 a3_2, .int .i64 a3_3]] rfl (by (try simp only [List.map_toArray, List.map_cons, List.map_nil]); first | done | rfl | (simp only [List.length_drop, List.length_take]; rfl)) ?_; (with_reducible refine (imageeditorref11_New.calls k a1 a2 a3_0 a3_1 a3_2 a3_3 t522 t523 t524 t527 _ A6.out).mono ?_); rintro e w25 ⟨v525, rfl, ho0, hb⟩; refine ⟨_, rfl, ?_⟩; have n0_ := Aside0.mk (Kd.R_below (by exact zro HO519 BK521 (by decide)) hb); have n1_ := Aside0.mk (Kd.R_lower (Kd.R_newB ho0 (zf BK514 NB514_521)) (below_size (by exact zbo HB GE521))); have n2_ := Aside0.mk (blk_below (g := gb521) (o := .cells #[.int .i64 t515, .int .i64 t516, .slice Ao23 t517.length co23] 24 (0, 0)) (by exact zp BK521 rfl) hb); have n3_ := Aside0.mk (below_step (by exact zbo HB GE521) hb); replace BK513 := zfk BK513 NB513_521 hb; replace BK514 := zfk BK514 NB514_521 hb; clear HO519; clear BK521; clear HB; have HO519 := n0_; have HO526 := n1_; have BK521 := n2_; have HB := n3_; clear n0_ n1_ n2_ n3_; (try clear hb); (try clear hb2); (try clear hk); (try clear hi); (try clear ho0); (try clear BK514); have n_ := Aside0.mk (Kd.R_mono (ok' := fun k_ => True) HO519.out (fun k_ hk_ => trivial)); clear HO519; have HO519 := n_; clear n_; have n_ := Aside0.mk (Kd.R_mono (ok' := fun k_ => True) HO526.out (fun k_ hk_ => trivial)); clear HO526; have HO526 := n_; clear n_) | ((with_reducible refine gate_dst (N := 11) rfl ?_); refine box_event ?hg (N := 11) ?hd (cs := #[.int .i64 0, .int .i64 0, .slice none 0 0]) (t := 24) ?hr ?_; (case hd => rfl); (case hg => rfl); (case hr => first | (go_simp; done) | (go_simp; rfl)); intro gb528 hg w26 hbox hb; have GW528 := zg HB hg; have GE528 := zg HB hg; have NB513_528 := zn BK513 hg; have NB528_513 := zn' BK513 hg; have NB521_528 := zn BK521 hg; have NB528_521 := zn' BK521 hg; have n0_ := Aside0.mk (hbox); replace HO519 := zr HO519 hb; replace HO526 := zr HO526 hb; replace BK513 := zk BK513 hb; replace BK521 := zk BK521 hb; replace HB := zb HB hb; have BK528 := n0_; clear n0_; clear hb hbox hg; have hnb27 := NB528_513.out; have hnc27 := NB513_528.out; have hnb28 := NB528_521.out; have hnc28 := NB521_528.out; obtain ⟨hcz29_0, hcz29_1, hcz29_2, hfz29_0, hfz29_1, hfz29_2⟩ := zq3 BK528; obtain ⟨Ao30, co30, eo30⟩ := Kd.R_slice HO526.out; subst eo30))
     have n0_ : Aside0 (Kd.R k26 26 (((w26.setCell ⟨gb528, 0, none⟩ (.int .i64 t522)).setCell ⟨gb528, 1, none⟩ (.int .i64 t523)).setCell ⟨gb528, 2, none⟩ (.slice Ao30 t524.length co30)) w.heap.size (fun _ => True) (.slice Ao23 t517.length co23) t517) := ⟨by exact zro HO519 BK528 (by decide)⟩
     have n1_ : Aside0 (Kd.R k26 26 (((w26.setCell ⟨gb528, 0, none⟩ (.int .i64 t522)).setCell ⟨gb528, 1, none⟩ (.int .i64 t523)).setCell ⟨gb528, 2, none⟩ (.slice Ao30 t524.length co30)) w.heap.size (fun _ => True) (.slice Ao30 t524.length co30) t524) := ⟨by exact zro HO526 BK528 (by decide)⟩
     have n2_ : Aside0 ((((w26.setCell ⟨gb528, 0, none⟩ (.int .i64 t522)).setCell ⟨gb528, 1, none⟩ (.int .i64 t523)).setCell ⟨gb528, 2, none⟩ (.slice Ao30 t524.length co30)).heap[gb513]? = some (.cells #[.int .i64 a0_0, .int .i64 a0_1, .slice A0_2 l0_2.length c0_2] 24 (0, 0))) := ⟨by exact zf BK513 NB513_528⟩
     have n3_ : Aside0 ((((w26.setCell ⟨gb528, 0, none⟩ (.int .i64 t522)).setCell ⟨gb528, 1, none⟩ (.int .i64 t523)).setCell ⟨gb528, 2, none⟩ (.slice Ao30 t524.length co30)).heap[gb521]? = some (.cells #[.int .i64 t515, .int .i64 t516, .slice Ao23 t517.length co23] 24 (0, 0))) := ⟨by exact zf BK521 NB521_528⟩
     have n4_ : Aside0 ((((w26.setCell ⟨gb528, 0, none⟩ (.int .i64 t522)).setCell ⟨gb528, 1, none⟩ (.int .i64 t523)).setCell ⟨gb528, 2, none⟩ (.slice Ao30 t524.length co30)).heap[gb528]? = some (.cells #[.int .i64 t522, .int .i64 t523, .slice Ao30 t524.length co30] 24 (0, 0))) := ⟨by exact zp BK528 rfl⟩
     have n5_ : Aside0 (Below w.heap.size w (((w26.setCell ⟨gb528, 0, none⟩ (.int .i64 t522)).setCell ⟨gb528, 1, none⟩ (.int .i64 t523)).setCell ⟨gb528, 2, none⟩ (.slice Ao30 t524.length co30))) := ⟨by exact zbo HB GE528⟩
     (try clear HO519)
     (try clear HO526)
     (try clear BK513)
     (try clear BK521)
     (try clear BK528)
     (try clear HB)
     generalize (((w26.setCell ⟨gb528, 0, none⟩ (.int .i64 t522)).setCell ⟨gb528, 1, none⟩ (.int .i64 t523)).setCell ⟨gb528, 2, none⟩ (.slice Ao30 t524.length co30)) = w31 at n0_ n1_ n2_ n3_ n4_ n5_ ⊢
     have HO519 := n0_
     have HO526 := n1_
     have BK513 := n2_
     have BK521 := n3_
     have BK528 := n4_
     have HB := n5_
     clear n0_ n1_ n2_ n3_ n4_ n5_
     replace HO519 := zrd HO519
     replace HO526 := zrd HO526
     replace BK513 := zkd BK513
     replace BK521 := zkd BK521
     replace BK528 := zkd BK528
     replace HB := zbd HB
     refine start_ (n := 19) (S := fun w' => w'.cell? ⟨gb513, 0, none⟩ = some (.int .i64 a0_0) ∧ w'.cell? ⟨gb513, 1, none⟩ = some (.int .i64 a0_1) ∧ w'.cell? ⟨gb513, 2, none⟩ = some (.slice A0_2 l0_2.length c0_2) ∧ w'.cell? ⟨gb521, 0, none⟩ = some (.int .i64 t515) ∧ w'.cell? ⟨gb521, 1, none⟩ = some (.int .i64 t516) ∧ w'.cell? ⟨gb521, 2, none⟩ = some (.slice Ao23 t517.length co23) ∧ w'.cell? ⟨gb528, 0, none⟩ = some (.int .i64 t522) ∧ w'.cell? ⟨gb528, 1, none⟩ = some (.int .i64 t523) ∧ w'.cell? ⟨gb528, 2, none⟩ = some (.slice Ao30 t524.length co30)) (ds := []) (bs 19 0) (by kernel_rfl) rfl rfl ⟨(blk_cell BK513.out 0).trans rfl, (blk_cell BK513.out 1).trans rfl, (blk_cell BK513.out 2).trans rfl, (blk_cell BK521.out 0).trans rfl, (blk_cell BK521.out 1).trans rfl, (blk_cell BK521.out 2).trans rfl, (blk_cell BK528.out 0).trans rfl, (blk_cell BK528.out 1).trans rfl, (blk_cell BK528.out 2).trans rfl⟩ (fun hHeld => ?_); refine with_tabW imageeditorlaw11_RasterChecks.tab3 imageeditorlaw11_RasterChecks.bits3 (fun HT_ HW_ => ?_)
     generalize w31.drew = w32 at HO519 HO526 BK513 BK521 BK528 HB HO519 HO526 hHeld ⊢
     refine one_ (i := 0) (N := some 27) (bs 19 1) rfl rfl (one_of HT_.out (by kernel_rfl)) (by decide) (fun K hK => ?_)
     refine goes_ Try.func17 (by kernel_rfl) rfl #[] (by rfl) rfl rfl (by (try simp only [List.map_toArray, List.map_cons, List.map_nil]); first | done | rfl | (simp only [List.length_drop, List.length_take]; rfl)) ?_
     with_reducible refine (imageeditorlaw11_awake.calls k  true _ A7.out).mono ?_
     rintro e w33 ⟨rfl, hb⟩
     refine ⟨_, rfl, ?_⟩
     replace HO519 := zr HO519 hb
     replace HO526 := zr HO526 hb
     replace BK513 := zk BK513 hb
     replace BK521 := zk BK521 hb
     replace BK528 := zk BK528 hb
     replace HB := zb HB hb
     (try clear hb)
     (try clear hb2)
     (try clear hk)
     (try clear hi)
     refine hK.out _ _ ⟨(blk_cell BK513.out 0).trans rfl, (blk_cell BK513.out 1).trans rfl, (blk_cell BK513.out 2).trans rfl, (blk_cell BK521.out 0).trans rfl, (blk_cell BK521.out 1).trans rfl, (blk_cell BK521.out 2).trans rfl, (blk_cell BK528.out 0).trans rfl, (blk_cell BK528.out 1).trans rfl, (blk_cell BK528.out 2).trans rfl⟩ (fun hHeld => ?_)
     clear hK K
     refine norm_ (a' := ?_) ?_ ?_
     rotate_left
     ·show Act.put _ (some 27) _ = _
      simp only [Act.put, sA, sB, sC, i64_w, i32_w]
      rfl
     refine pure_ (i := 1) (N := some 28) (v := ?_) (a' := ?_) (bs 19 3) rfl rfl (any_of HT_.out (by kernel_rfl)) (fun _ _ _ h => h) (Or.inl ⟨by rfl, ?_⟩) ?_ ?_
     rotate_left
     ·intro w'
      go_simp
      with_reducible rfl
     rotate_left
     ·simp only [Act.put, sA, sB, sC, i64_w, i32_w]
      rfl
     refine take_ (i := 2) (N := some 29) (v := ?_) (a' := ?_) (bs 19 7) rfl rfl (take_ofW HT_.out HW_.out (by kernel_rfl)) (fun _ _ _ h => h) (Or.inl ⟨by rfl, ?_⟩) hHeld ?_ ?_
     rotate_left
     ·rintro w' ⟨s0, s1, s2, s3, s4, s5, s6, s7, s8⟩
      go_simp
      with_reducible rfl
     rotate_left
     ·simp only [Act.put, sA, sB, sC, i64_w, i32_w]
      rfl
     refine take_ (i := 4) (N := some 31) (v := ?_) (a' := ?_) (bs 19 23) rfl rfl (take_ofW HT_.out HW_.out (by kernel_rfl)) (fun _ _ _ h => h) (Or.inl ⟨by rfl, ?_⟩) hHeld ?_ ?_
     rotate_left
     ·rintro w' ⟨s0, s1, s2, s3, s4, s5, s6, s7, s8⟩
      go_simp
      with_reducible rfl
     rotate_left
     ·simp only [Act.put, sA, sB, sC, i64_w, i32_w]
      rfl
     refine one_ (i := 3) (N := some 30) (bs 19 31) rfl rfl (one_of HT_.out (by kernel_rfl)) (by decide) (fun K hK => ?_)
     refine goes_ Try.func18 (by kernel_rfl) rfl #[.agg #[.int .i64 a0_0, .int .i64 a0_1, .slice A0_2 l0_2.length c0_2]] (by rfl) rfl rfl (by (try simp only [List.map_toArray, List.map_cons, List.map_nil]); first | done | rfl | (simp only [List.length_drop, List.length_take]; rfl)) ?_
     with_reducible refine (raster_Check.calls k a0_0 a0_1 _ _ l0_2 t530 _ ?side1 ?side2 A9.out).mono ?_
     (case side1 => repeat (first | exact (Kd.C_below HR0_2.out HB.out) | (with_reducible refine Kd.C_alloc ?_ _) | (with_reducible refine Kd.C_drewN ?_ _) | (with_reducible refine Kd.C_drew ?_)))
     (case side2 => exact HC0_2.out)
     rintro e w34 ⟨rfl, hb⟩
     refine ⟨_, rfl, ?_⟩
     replace HO519 := zr HO519 hb
     replace HO526 := zr HO526 hb
     replace BK513 := zk BK513 hb
     replace BK521 := zk BK521 hb
     replace BK528 := zk BK528 hb
     replace HB := zb HB hb
     (try clear hb)
     (try clear hb2)
     (try clear hk)
     (try clear hi)
     refine hK.out _ _ ⟨(blk_cell BK513.out 0).trans rfl, (blk_cell BK513.out 1).trans rfl, (blk_cell BK513.out 2).trans rfl, (blk_cell BK521.out 0).trans rfl, (blk_cell BK521.out 1).trans rfl, (blk_cell BK521.out 2).trans rfl, (blk_cell BK528.out 0).trans rfl, (blk_cell BK528.out 1).trans rfl, (blk_cell BK528.out 2).trans rfl⟩ (fun hHeld => ?_)
     clear hK K
     refine norm_ (a' := ?_) ?_ ?_
     rotate_left
     ·show Act.put _ (some 30) _ = _
      simp only [Act.put, sA, sB, sC, i64_w, i32_w]
      rfl
     refine one_ (i := 5) (N := some 32) (bs 19 63) rfl rfl (one_of HT_.out (by kernel_rfl)) (by decide) (fun K hK => ?_)
     refine goes_ Try.func19 (by kernel_rfl) rfl #[.agg #[.int .i64 a0_0, .int .i64 a0_1, .slice A0_2 l0_2.length c0_2]] (by rfl) rfl rfl (by (try simp only [List.map_toArray, List.map_cons, List.map_nil]); first | done | rfl | (simp only [List.length_drop, List.length_take]; rfl)) ?_
     with_reducible refine (imageeditorref11_Check.calls k a0_0 a0_1 _ _ l0_2 t531 _ ?side1 ?side2 A10.out).mono ?_
     (case side1 => repeat (first | exact (Kd.C_below HR0_2.out HB.out) | (with_reducible refine Kd.C_alloc ?_ _) | (with_reducible refine Kd.C_drewN ?_ _) | (with_reducible refine Kd.C_drew ?_)))
     (case side2 => exact HC0_2.out)
     rintro e w35 ⟨rfl, hb⟩
     refine ⟨_, rfl, ?_⟩
     replace HO519 := zr HO519 hb
     replace HO526 := zr HO526 hb
     replace BK513 := zk BK513 hb
     replace BK521 := zk BK521 hb
     replace BK528 := zk BK528 hb
     replace HB := zb HB hb
     (try clear hb)
     (try clear hb2)
     (try clear hk)
     (try clear hi)
     refine hK.out _ _ ⟨(blk_cell BK513.out 0).trans rfl, (blk_cell BK513.out 1).trans rfl, (blk_cell BK513.out 2).trans rfl, (blk_cell BK521.out 0).trans rfl, (blk_cell BK521.out 1).trans rfl, (blk_cell BK521.out 2).trans rfl, (blk_cell BK528.out 0).trans rfl, (blk_cell BK528.out 1).trans rfl, (blk_cell BK528.out 2).trans rfl⟩ (fun hHeld => ?_)
     clear hK K
     refine norm_ (a' := ?_) ?_ ?_
     rotate_left
     ·show Act.put _ (some 32) _ = _
      simp only [Act.put, sA, sB, sC, i64_w, i32_w]
      rfl
     refine pure_ (i := 6) (N := some 33) (v := ?_) (a' := ?_) (bs 19 127) rfl rfl (any_of HT_.out (by kernel_rfl)) (fun _ _ _ h => h) (Or.inl ⟨by rfl, ?_⟩) ?_ ?_
     rotate_left
     ·intro w'
      go_simp
      with_reducible rfl
     rotate_left
     ·simp only [Act.put, sA, sB, sC, i64_w, i32_w]
      rfl
     refine pure_ (i := 7) (N := some 34) (v := ?_) (a' := ?_) (bs 19 255) rfl rfl (any_of HT_.out (by kernel_rfl)) (fun _ _ _ h => h) (Or.inl ⟨by rfl, ?_⟩) ?_ ?_
     rotate_left
     ·intro w'
      go_simp
      with_reducible rfl
     rotate_left
     ·simp only [Act.put, sA, sB, sC, i64_w, i32_w]
      rfl
     refine pure_ (i := 8) (N := some 35) (v := ?_) (a' := ?_) (bs 19 511) rfl rfl (any_of HT_.out (by kernel_rfl)) (fun _ _ _ h => h) (Or.inl ⟨by rfl, ?_⟩) ?_ ?_
     rotate_left
     ·intro w'
      go_simp
      with_reducible rfl
     rotate_left
     ·simp only [Act.put, sA, sB, sC, i64_w, i32_w]
      rfl
     refine pure_ (i := 9) (N := some 36) (v := ?_) (a' := ?_) (bs 19 1023) rfl rfl (any_of HT_.out (by kernel_rfl)) (fun _ _ _ h => h) (Or.inl ⟨by rfl, ?_⟩) ?_ ?_
     rotate_left
     ·intro w'
      go_simp
      with_reducible rfl
     rotate_left
     ·simp only [Act.put, sA, sB, sC, i64_w, i32_w]
      rfl
     refine pure_ (i := 10) (N := some 37) (v := ?_) (a' := ?_) (bs 19 2047) rfl rfl (any_of HT_.out (by kernel_rfl)) (fun _ _ _ h => h) (Or.inl ⟨by rfl, ?_⟩) ?_ ?_
     rotate_left
     ·intro w'
      go_simp
      with_reducible rfl
     rotate_left
     ·simp only [Act.put, sA, sB, sC, i64_w, i32_w]
      rfl
     refine pure_ (i := 11) (N := some 38) (v := ?_) (a' := ?_) (bs 19 4095) rfl rfl (any_of HT_.out (by kernel_rfl)) (fun _ _ _ h => h) (Or.inl ⟨by rfl, ?_⟩) ?_ ?_
     rotate_left
     ·intro w'
      go_simp
      with_reducible rfl
     rotate_left
     ·simp only [Act.put, sA, sB, sC, i64_w, i32_w]
      rfl
     refine pure_ (i := 12) (N := some 39) (v := ?_) (a' := ?_) (bs 19 8191) rfl rfl (any_of HT_.out (by kernel_rfl)) (fun _ _ _ h => h) (Or.inl ⟨by rfl, ?_⟩) ?_ ?_
     rotate_left
     ·intro w'
      go_simp
      with_reducible rfl
     rotate_left
     ·simp only [Act.put, sA, sB, sC, i64_w, i32_w]
      rfl
     refine pure_ (i := 13) (N := some 40) (v := ?_) (a' := ?_) (bs 19 16383) rfl rfl (any_of HT_.out (by kernel_rfl)) (fun _ _ _ h => h) (Or.inl ⟨by rfl, ?_⟩) ?_ ?_
     rotate_left
     ·intro w'
      go_simp
      with_reducible rfl
     rotate_left
     ·simp only [Act.put, sA, sB, sC, i64_w, i32_w]
      rfl
     refine take_ (i := 14) (N := some 41) (v := ?_) (a' := ?_) (bs 19 32767) rfl rfl (take_ofW HT_.out HW_.out (by kernel_rfl)) (fun _ _ _ h => h) (Or.inl ⟨by rfl, ?_⟩) hHeld ?_ ?_
     rotate_left
     ·rintro w' ⟨s0, s1, s2, s3, s4, s5, s6, s7, s8⟩
      go_simp
      with_reducible rfl
     rotate_left
     ·simp only [Act.put, sA, sB, sC, i64_w, i32_w]
      rfl
     refine take_ (i := 15) (N := some 42) (v := ?_) (a' := ?_) (bs 19 65535) rfl rfl (take_ofW HT_.out HW_.out (by kernel_rfl)) (fun _ _ _ h => h) (Or.inl ⟨by rfl, ?_⟩) hHeld ?_ ?_
     rotate_left
     ·rintro w' ⟨s0, s1, s2, s3, s4, s5, s6, s7, s8⟩
      go_simp
      with_reducible rfl
     rotate_left
     ·simp only [Act.put, sA, sB, sC, i64_w, i32_w]
      rfl
     refine one_ (i := 16) (N := some 43) (bs 19 131071) rfl rfl (one_of HT_.out (by kernel_rfl)) (by decide) (fun K hK => ?_)
     refine goes_ Try.func20 (by kernel_rfl) rfl #[.agg #[.int .i64 t515, .int .i64 t516, .slice Ao23 t517.length co23], .agg #[.int .i64 t522, .int .i64 t523, .slice Ao30 t524.length co30]] (by rfl) rfl rfl (by (try simp only [List.map_toArray, List.map_cons, List.map_nil]); first | done | rfl | (simp only [List.length_drop, List.length_take]; rfl)) ?_
     with_reducible refine (imageeditorlaw11_same.calls k t515 t516 _ _ t517 t522 t523 _ _ t524 t532 _ ?side1 ?side2 ?side3 ?side4 A13.out).mono ?_
     (case side1 => repeat (first | exact (Kd.R_reads' HO519.out).2.2 | (with_reducible refine Kd.C_alloc ?_ _) | (with_reducible refine Kd.C_drewN ?_ _) | (with_reducible refine Kd.C_drew ?_)))
     (case side2 => exact (Kd.R_reads' HO519.out).2.1)
     (case side3 => repeat (first | exact (Kd.R_reads' HO526.out).2.2 | (with_reducible refine Kd.C_alloc ?_ _) | (with_reducible refine Kd.C_drewN ?_ _) | (with_reducible refine Kd.C_drew ?_)))
     (case side4 => exact (Kd.R_reads' HO526.out).2.1)
     rintro e w36 ⟨rfl, hb⟩
     refine ⟨_, rfl, ?_⟩
     replace HO519 := zr HO519 hb
     replace HO526 := zr HO526 hb
     replace BK513 := zk BK513 hb
     replace BK521 := zk BK521 hb
     replace BK528 := zk BK528 hb
     replace HB := zb HB hb
     (try clear hb)
     (try clear hb2)
     (try clear hk)
     (try clear hi)
     refine hK.out _ _ ⟨(blk_cell BK513.out 0).trans rfl, (blk_cell BK513.out 1).trans rfl, (blk_cell BK513.out 2).trans rfl, (blk_cell BK521.out 0).trans rfl, (blk_cell BK521.out 1).trans rfl, (blk_cell BK521.out 2).trans rfl, (blk_cell BK528.out 0).trans rfl, (blk_cell BK528.out 1).trans rfl, (blk_cell BK528.out 2).trans rfl⟩ (fun hHeld => ?_)
     clear hK K
     refine norm_ (a' := ?_) ?_ ?_
     rotate_left
     ·show Act.put _ (some 43) _ = _
      simp only [Act.put, sA, sB, sC, i64_w, i32_w]
      rfl
     refine pure_ (i := 17) (N := some 44) (v := ?_) (a' := ?_) (bs 19 262143) rfl rfl (any_of HT_.out (by kernel_rfl)) (fun _ _ _ h => h) (Or.inl ⟨by rfl, ?_⟩) ?_ ?_
     rotate_left
     ·intro w'
      go_simp
      with_reducible rfl
     rotate_left
     ·simp only [Act.put, sA, sB, sC, i64_w, i32_w]
      rfl
     refine pure_ (i := 18) (N := some 8) (v := ?_) (a' := ?_) (bs 19 524287) rfl rfl (any_of HT_.out (by kernel_rfl)) (fun _ _ _ h => h) (Or.inl ⟨by rfl, ?_⟩) ?_ ?_
     rotate_left
     ·intro w'
      go_simp
      with_reducible rfl
     rotate_left
     ·simp only [Act.put, sA, sB, sC, i64_w, i32_w]
      rfl
     refine done_ (done_of HT_.out (by kernel_rfl)) ?_
     try go_wp2
     go_ret
     exact ⟨by first | rfl | (simp [errW_none, errW_some] <;> rfl) | (simp [*, errW_none, errW_some] <;> rfl), by exact zb0 HB⟩
   ·rw [if_neg c12] at H
    have c12b0 : (t520 == t527) = false := beq_eq_false_iff_ne.mpr c12
    have c12b1 : (t520 != t527) = true := bne_iff_ne.mpr c12
    as_aux_lemma =>
     exact absurd HT.out (by rw [← Option.some.inj H]; decide)
  ·rw [if_neg c11] at H
   have c11b0 : (t530 == t531) = false := beq_eq_false_iff_ne.mpr c11
   have c11b1 : (t530 != t531) = true := bne_iff_ne.mpr c11
   as_aux_lemma =>
    exact absurd HT.out (by rw [← Option.some.inj H]; decide)
 ·replace c8 := Bool.eq_false_iff.mpr c8
  subst c8
  have H1 : (some false) = some r := by rw [if_neg (show ¬ (false = true) by decide)] at H; exact H
  clear H
  have H := H1
  clear H1
  as_aux_lemma =>
   exact absurd HT.out (by rw [← Option.some.inj H]; decide)

end Go.Proofs.Ytjepbimgddgijaa.G
