/- Contracts of functions of the program, each as it is called: what it computes (.f), that it computes no less with more rounds (.mono), and that a call returns just that (.calls). No conditions but those that each contract names. Written by a program of this session (wip/gx.py over the kit's print). -/
import Derived.Test.YtnfbabmceddciaaG0
import Derived.Test.YtnfbabmceddciaaG2
import Derived.Test.YtnfbabmceddciaaG6
import Derived.Test.YtnfbabmceddciaaG15
namespace Go.Proofs.Ytnfbabmceddciaa.G
open Go.RowKit Go.Proofs.YtnfbabmceddciaaW.PrintWords Go.Proofs.YtnfbabmceddciaaW.PrintLast Go.Proofs.YtnfbabmceddciaaW.PrintMore
attribute [local go_sem] max2_int min2_int max_two min_two max_three min_three max_four min_four max_five min_five   -- for this text's walks alone
set_option linter.unusedVariables false
set_option linter.unusedSimpArgs false


attribute [local go_sem high] eqA34
/-! ### imageeditorref13_Support: function 46 -/
def imageeditorref13_Support.j0 : Nat → Int → Bool → Option (Int)
 | 0, _, _ => none
 | k + 1, x0, x8 => if x8 = true then (some 2) else ((imageeditorref13_Valid.f x0).bind fun t537 => (if t537 = true then (some 1) else (some 0)))
def imageeditorref13_Support.f (k : Nat) (a0 : Int) : Option (Int) := if a0 = 2 then (imageeditorref13_Support.j0 k a0 true) else (imageeditorref13_Support.j0 k a0 (a0 == 4))
theorem imageeditorref13_Support.mono_l : ∀ k, (∀ y0 y1, LeO (imageeditorref13_Support.j0 k y0 y1) (imageeditorref13_Support.j0 (k + 1) y0 y1))
 | 0 => fun _ _ r h => by simp [imageeditorref13_Support.j0] at h
 | k + 1 => by
  have ih0 := imageeditorref13_Support.mono_l k
  ·intro y0 y1
   unfold imageeditorref13_Support.j0
   repeat' first
   | (with_reducible exact ih0 _ _)
   | (with_reducible exact LeO.refl _)
   | (with_reducible exact LeO.none _)
   | (with_reducible refine LeO.ite ?_ ?_)
   | (with_reducible refine LeO.bind ?_ (fun _ => ?_))
   | exact ih0 _ _
   | exact LeO.none _
   | refine LeO.ite ?_ ?_
   | refine LeO.bind ?_ (fun _ => ?_)
theorem imageeditorref13_Support.mono : ∀ a0 k, LeO (imageeditorref13_Support.f k a0) (imageeditorref13_Support.f (k + 1) a0) := by
 intro a0 k
 have ih0 := imageeditorref13_Support.mono_l k
 unfold imageeditorref13_Support.f
 repeat' first
   | (with_reducible exact ih0 _ _)
   | (with_reducible exact LeO.refl _)
   | (with_reducible exact LeO.none _)
   | (with_reducible refine LeO.ite ?_ ?_)
   | (with_reducible refine LeO.bind ?_ (fun _ => ?_))
   | exact ih0 _ _
   | exact LeO.none _
   | refine LeO.ite ?_ ?_
   | refine LeO.bind ?_ (fun _ => ?_)
set_option maxHeartbeats 8000000 in
set_option maxRecDepth 100000 in
theorem imageeditorref13_Support.calls (k : Nat) (a0 : Int) (r : Int) (w : World) (h : imageeditorref13_Support.f k a0 = some r) :
  Calls Try.prog 46 #[.int .i64 a0] w fun e w' => e = .returned (.int .i64 r) ∧ Drawn0 w w' := by
 have H : (if a0 = 2 then (imageeditorref13_Support.j0 k a0 true) else (imageeditorref13_Support.j0 k a0 (a0 == 4))) = some r := h
 clear h
 have HC2 := Aside0.mk H
 clear H
 go_enter Try.func46, Try.ntmps46
 go_upto_region 1 with (fail)
 go_cut [8] (fun v8 wc => ∃ (kq : Nat) (x8_1 : Bool), v8 = .bool x8_1 ∧ Aside0 (imageeditorref13_Support.j0 kq a0 x8_1 = some r) ∧ Aside0 (kq ≤ k) ∧ Drawn0 w wc)
 case first =>
  have H := HC2.out
  clear HC2
  by_cases c3 : a0 = 2
  ·rw [if_pos c3] at H
   have c3b0 : (a0 == 2) = true := beq_iff_eq.mpr c3
   have c3b1 : (a0 != 2) = false := bne_eq_false_iff_eq.mpr c3
   clear c3
   (first | rw [c3b0] | (simp only [i64_w, i32_w]; rw [c3b0]) | skip)
   have H' := Aside0.mk H
   clear H
   go_wp2
   go_meet
   case rel => exact ⟨_, (true), (by first | rfl | (simp; done) | (simp [*]; done)), H', ⟨by first | omega | exact Nat.le_refl _⟩, by repeat (first | exact Drawn0.refl _ | apply Drawn0.step)⟩
  ·rw [if_neg c3] at H
   have c3b0 : (a0 == 2) = false := beq_eq_false_iff_ne.mpr c3
   have c3b1 : (a0 != 2) = true := bne_iff_ne.mpr c3
   (first | rw [c3b0] | (simp only [i64_w, i32_w]; rw [c3b0]) | skip)
   have H' := Aside0.mk H
   clear H
   go_wp2
   go_meet
   case rel => exact ⟨_, ((a0 == 4)), (by first | rfl | (simp; done) | (simp [*]; done)), H', ⟨by first | omega | exact Nat.le_refl _⟩, by repeat (first | exact Drawn0.refl _ | apply Drawn0.step)⟩
 case rest =>
  clear HC2
  try clear p2
  try clear c3
  try clear c3b0
  try clear c3b1
  obtain ⟨kq, x8_1, rfl, HA, HJ1, ⟨mc1, rfl⟩⟩ := hcut
  cases kq with
  | zero => exact absurd HA.out (by simp [imageeditorref13_Support.j0])
  | succ kj1 =>
   have H := HA.out
   clear HA
   simp only [imageeditorref13_Support.j0] at H
   by_cases c4 : x8_1 = true
   ·subst c4
    have H1 : (some 2) = some r := by rw [if_pos rfl] at H; exact H
    clear H
    have H := H1
    clear H1
    obtain rfl := Option.some.inj H
    go_wp2
    go_ret
    exact ⟨by first | rfl | (simp; done) | (simp [*]; done), by repeat (first | exact Drawn0.refl _ | apply Drawn0.step)⟩
   ·replace c4 := Bool.eq_false_iff.mpr c4
    subst c4
    have H1 : ((imageeditorref13_Valid.f a0).bind fun t537 => (if t537 = true then (some 1) else (some 0))) = some r := by rw [if_neg (show ¬ (false = true) by decide)] at H; exact H
    clear H
    have H := H1
    clear H1
    replace H := Option.bind_eq_some_iff.mp H
    obtain ⟨t537, A50, H⟩ := H
    replace H : (if t537 = true then (some 1) else (some 0)) = some r := H
    have A5 := Aside0.mk A50
    clear A50
    by_cases c6 : t537 = true
    ·subst c6
     have H1 : (some 1) = some r := by rw [if_pos rfl] at H; exact H
     clear H
     have H := H1
     clear H1
     obtain rfl := Option.some.inj H
     go_wp2_with (first | ((with_reducible refine gate_callee (f := 40) rfl ?_); refine goesL_ (some 10) rfl rfl Try.func40 (by kernel_rfl) rfl #[.int .i64 a0] rfl (by (try simp only [List.map_toArray, List.map_cons, List.map_nil]); first | done | rfl | (simp only [List.length_drop, List.length_take]; rfl)) ?_; (with_reducible refine (imageeditorref13_Valid.calls a0 true _ A5.out).mono ?_); rintro e w' ⟨rfl, ⟨nd, rfl⟩⟩; refine ⟨_, rfl, ?_⟩))
     go_ret
     exact ⟨by first | rfl | (simp; done) | (simp [*]; done), by repeat (first | exact Drawn0.refl _ | apply Drawn0.step)⟩
    ·replace c6 := Bool.eq_false_iff.mpr c6
     subst c6
     have H1 : (some 0) = some r := by rw [if_neg (show ¬ (false = true) by decide)] at H; exact H
     clear H
     have H := H1
     clear H1
     obtain rfl := Option.some.inj H
     go_wp2_with (first | ((with_reducible refine gate_callee (f := 40) rfl ?_); refine goesL_ (some 10) rfl rfl Try.func40 (by kernel_rfl) rfl #[.int .i64 a0] rfl (by (try simp only [List.map_toArray, List.map_cons, List.map_nil]); first | done | rfl | (simp only [List.length_drop, List.length_take]; rfl)) ?_; (with_reducible refine (imageeditorref13_Valid.calls a0 false _ A5.out).mono ?_); rintro e w' ⟨rfl, ⟨nd, rfl⟩⟩; refine ⟨_, rfl, ?_⟩))
     go_ret
     exact ⟨by first | rfl | (simp; done) | (simp [*]; done), by repeat (first | exact Drawn0.refl _ | apply Drawn0.step)⟩

/-! ### imageeditorref15_Needs: function 18 -/
def imageeditorref15_Needs.j0 : Nat → Int → Bool → Int → Int → Int → List (S28) → Int → Int → Int → Int → Int → Int → Int → Int → Option (Int × Int × Int × Int × Int)
 | 0, _, _, _, _, _, _, _, _, _, _, _, _, _, _ => none
 | k + 1, x1, x38, x539000, x539001, x539002, x539003, x540000, x540001, x540002, x540003, x541000, x541001, x541002, x541003 => if x38 = true then (some (0, 0, 0, 0, 2)) else ((imageeditorref15_Reach.f k x539000 x539001 x539002 x539003).bind fun t548 => ((imageeditorref13_Support.f k x1).bind fun t549 => ((imageeditorref02_Grow.f k x540000 x540001 x540002 x540003 (wrap64 ((wrap64 (t548 + t549)) + 1))).bind fun bt550 => ((imageeditorref02_Meet.f k bt550.1 bt550.2.1 bt550.2.2.1 bt550.2.2.2 x541000 x541001 x541002 x541003).bind fun bt554 => (some (bt554.1, bt554.2.1, bt554.2.2.1, bt554.2.2.2, 0))))))
def imageeditorref15_Needs.f (k : Nat) (a0_0 : Int) (a0_1 : Int) (a0_2 : Int) (l0_3 : List (S28)) (a1 : Int) (a2_0 : Int) (a2_1 : Int) (a2_2 : Int) (a2_3 : Int) (a3_0 : Int) (a3_1 : Int) (a3_2 : Int) (a3_3 : Int) : Option (Int × Int × Int × Int × Int) := (imageeditorref15_Check.f k a0_0 a0_1 a0_2 l0_3).bind fun t542 => (if t542 = 0 then ((imageeditorref13_Valid.f a1).bind fun t543 => (if t543 = true then ((imageeditorref02_Valid.f a2_0 a2_1 a2_2 a2_3).bind fun t544 => (if t544 = true then ((imageeditorref02_Valid.f a3_0 a3_1 a3_2 a3_3).bind fun t545 => (if t545 = true then ((imageeditorref02_Empty.f a2_0 a2_1 a2_2 a2_3).bind fun t546 => (if t546 = true then (imageeditorref15_Needs.j0 k a1 true a0_0 a0_1 a0_2 l0_3 a2_0 a2_1 a2_2 a2_3 a3_0 a3_1 a3_2 a3_3) else ((imageeditorref02_Within.f k a2_0 a2_1 a2_2 a2_3 a3_0 a3_1 a3_2 a3_3).bind fun t547 => (imageeditorref15_Needs.j0 k a1 (!t547) a0_0 a0_1 a0_2 l0_3 a2_0 a2_1 a2_2 a2_3 a3_0 a3_1 a3_2 a3_3)))) else (imageeditorref15_Needs.j0 k a1 true a0_0 a0_1 a0_2 l0_3 a2_0 a2_1 a2_2 a2_3 a3_0 a3_1 a3_2 a3_3))) else (imageeditorref15_Needs.j0 k a1 true a0_0 a0_1 a0_2 l0_3 a2_0 a2_1 a2_2 a2_3 a3_0 a3_1 a3_2 a3_3))) else (some (0, 0, 0, 0, 8)))) else (some (0, 0, 0, 0, t542)))
theorem imageeditorref15_Needs.mono_l : ∀ k, (∀ y0 y1 y2 y3 y4 y5 y6 y7 y8 y9 y10 y11 y12 y13, LeO (imageeditorref15_Needs.j0 k y0 y1 y2 y3 y4 y5 y6 y7 y8 y9 y10 y11 y12 y13) (imageeditorref15_Needs.j0 (k + 1) y0 y1 y2 y3 y4 y5 y6 y7 y8 y9 y10 y11 y12 y13))
 | 0 => fun _ _ _ _ _ _ _ _ _ _ _ _ _ _ r h => by simp [imageeditorref15_Needs.j0] at h
 | k + 1 => by
  have ih0 := imageeditorref15_Needs.mono_l k
  ·intro y0 y1 y2 y3 y4 y5 y6 y7 y8 y9 y10 y11 y12 y13
   unfold imageeditorref15_Needs.j0
   repeat' first
   | (with_reducible exact ih0 _ _ _ _ _ _ _ _ _ _ _ _ _ _)
   | (with_reducible exact imageeditorref02_Grow.mono _ _ _ _ _ _)
   | (with_reducible exact imageeditorref02_Meet.mono _ _ _ _ _ _ _ _ _)
   | (with_reducible exact imageeditorref02_Within.mono _ _ _ _ _ _ _ _ _)
   | (with_reducible exact imageeditorref13_Support.mono _ _)
   | (with_reducible exact imageeditorref15_Check.mono _ _ _ _ _)
   | (with_reducible exact imageeditorref15_Reach.mono _ _ _ _ _)
   | (with_reducible exact LeO.refl _)
   | (with_reducible exact LeO.none _)
   | (with_reducible refine LeO.ite ?_ ?_)
   | (with_reducible refine LeO.bind ?_ (fun _ => ?_))
   | exact ih0 _ _ _ _ _ _ _ _ _ _ _ _ _ _
   | exact imageeditorref02_Grow.mono _ _ _ _ _ _
   | exact imageeditorref02_Meet.mono _ _ _ _ _ _ _ _ _
   | exact imageeditorref02_Within.mono _ _ _ _ _ _ _ _ _
   | exact imageeditorref13_Support.mono _ _
   | exact imageeditorref15_Check.mono _ _ _ _ _
   | exact imageeditorref15_Reach.mono _ _ _ _ _
   | exact LeO.none _
   | refine LeO.ite ?_ ?_
   | refine LeO.bind ?_ (fun _ => ?_)
theorem imageeditorref15_Needs.mono : ∀ a0 a1 a2 a3 a4 a5 a6 a7 a8 a9 a10 a11 a12 k, LeO (imageeditorref15_Needs.f k a0 a1 a2 a3 a4 a5 a6 a7 a8 a9 a10 a11 a12) (imageeditorref15_Needs.f (k + 1) a0 a1 a2 a3 a4 a5 a6 a7 a8 a9 a10 a11 a12) := by
 intro a0 a1 a2 a3 a4 a5 a6 a7 a8 a9 a10 a11 a12 k
 have ih0 := imageeditorref15_Needs.mono_l k
 unfold imageeditorref15_Needs.f
 repeat' first
   | (with_reducible exact ih0 _ _ _ _ _ _ _ _ _ _ _ _ _ _)
   | (with_reducible exact imageeditorref02_Grow.mono _ _ _ _ _ _)
   | (with_reducible exact imageeditorref02_Meet.mono _ _ _ _ _ _ _ _ _)
   | (with_reducible exact imageeditorref02_Within.mono _ _ _ _ _ _ _ _ _)
   | (with_reducible exact imageeditorref13_Support.mono _ _)
   | (with_reducible exact imageeditorref15_Check.mono _ _ _ _ _)
   | (with_reducible exact imageeditorref15_Reach.mono _ _ _ _ _)
   | (with_reducible exact LeO.refl _)
   | (with_reducible exact LeO.none _)
   | (with_reducible refine LeO.ite ?_ ?_)
   | (with_reducible refine LeO.bind ?_ (fun _ => ?_))
   | exact ih0 _ _ _ _ _ _ _ _ _ _ _ _ _ _
   | exact imageeditorref02_Grow.mono _ _ _ _ _ _
   | exact imageeditorref02_Meet.mono _ _ _ _ _ _ _ _ _
   | exact imageeditorref02_Within.mono _ _ _ _ _ _ _ _ _
   | exact imageeditorref13_Support.mono _ _
   | exact imageeditorref15_Check.mono _ _ _ _ _
   | exact imageeditorref15_Reach.mono _ _ _ _ _
   | exact LeO.none _
   | refine LeO.ite ?_ ?_
   | refine LeO.bind ?_ (fun _ => ?_)
def imageeditorref15_Needs.T8 : Bool × List (List Nat × List Nat) := (true, [([], []), ([], []), ([1], [1]), ([], []), ([3, 2], [3]), ([2, 4], [2, 4]), ([5], [5]), ([0, 6, 4], [0, 6]), ([], []), ([7, 8, 7], [7, 8]), ([9, 9, 0, 1, 2, 3, 4, 5, 6, 7, 8, 9], [9]), ([10, 0, 1, 2, 3, 4, 5, 6, 7, 8, 9, 10], [])])
def imageeditorref15_Needs.B8 : List Nat := [0, 0, 2, 0, 14, 30, 62, 127, 0, 511, 1023, 2047]
theorem imageeditorref15_Needs.tab8 : rtab .any (opsOf Try.f18 8) = imageeditorref15_Needs.T8 := by kernel_rfl
theorem imageeditorref15_Needs.bits8 : waitsOk imageeditorref15_Needs.T8.2 imageeditorref15_Needs.B8 = true := by kernel_rfl
set_option maxHeartbeats 8000000 in
set_option maxRecDepth 100000 in
theorem imageeditorref15_Needs.calls (k : Nat) (a0_0 : Int) (a0_1 : Int) (a0_2 : Int) (A0_3 : Option Addr) (c0_3 : Nat) (l0_3 : List (S28)) (a1 : Int) (a2_0 : Int) (a2_1 : Int) (a2_2 : Int) (a2_3 : Int) (a3_0 : Int) (a3_1 : Int) (a3_2 : Int) (a3_3 : Int) (r1 : Int) (r2 : Int) (r3 : Int) (r4 : Int) (r5 : Int) (w : World) (hr0_3 : Kd.C k28 w A0_3 l0_3.length l0_3) (hc0_3 : l0_3.length ≤ c0_3) (h : imageeditorref15_Needs.f k a0_0 a0_1 a0_2 l0_3 a1 a2_0 a2_1 a2_2 a2_3 a3_0 a3_1 a3_2 a3_3 = some (r1, r2, r3, r4, r5)) :
  Calls Try.prog 18 #[.agg #[.int .i64 a0_0, .int .i64 a0_1, .int .i64 a0_2, .slice A0_3 l0_3.length c0_3], .int .i64 a1, .agg #[.int .i64 a2_0, .int .i64 a2_1, .int .i64 a2_2, .int .i64 a2_3], .agg #[.int .i64 a3_0, .int .i64 a3_1, .int .i64 a3_2, .int .i64 a3_3]] w fun e w' => e = .returned (.tuple #[.agg #[.int .i64 r1, .int .i64 r2, .int .i64 r3, .int .i64 r4], .int .i64 r5]) ∧ Below w.heap.size w w' := by
 have hu24 := Try.underlying24
 have hu34 := Try.underlying34
 have HR0_3 := Aside0.mk hr0_3
 have HC0_3 := Aside0.mk hc0_3
 clear hr0_3 hc0_3
 have HB := Aside0.mk (Below.refl w.heap.size w)
 have H : ((imageeditorref15_Check.f k a0_0 a0_1 a0_2 l0_3).bind fun t542 => (if t542 = 0 then ((imageeditorref13_Valid.f a1).bind fun t543 => (if t543 = true then ((imageeditorref02_Valid.f a2_0 a2_1 a2_2 a2_3).bind fun t544 => (if t544 = true then ((imageeditorref02_Valid.f a3_0 a3_1 a3_2 a3_3).bind fun t545 => (if t545 = true then ((imageeditorref02_Empty.f a2_0 a2_1 a2_2 a2_3).bind fun t546 => (if t546 = true then (imageeditorref15_Needs.j0 k a1 true a0_0 a0_1 a0_2 l0_3 a2_0 a2_1 a2_2 a2_3 a3_0 a3_1 a3_2 a3_3) else ((imageeditorref02_Within.f k a2_0 a2_1 a2_2 a2_3 a3_0 a3_1 a3_2 a3_3).bind fun t547 => (imageeditorref15_Needs.j0 k a1 (!t547) a0_0 a0_1 a0_2 l0_3 a2_0 a2_1 a2_2 a2_3 a3_0 a3_1 a3_2 a3_3)))) else (imageeditorref15_Needs.j0 k a1 true a0_0 a0_1 a0_2 l0_3 a2_0 a2_1 a2_2 a2_3 a3_0 a3_1 a3_2 a3_3))) else (imageeditorref15_Needs.j0 k a1 true a0_0 a0_1 a0_2 l0_3 a2_0 a2_1 a2_2 a2_3 a3_0 a3_1 a3_2 a3_3))) else (some (0, 0, 0, 0, 8)))) else (some (0, 0, 0, 0, t542)))) = some (r1, r2, r3, r4, r5) := h
 clear h
 replace H := Option.bind_eq_some_iff.mp H
 obtain ⟨t542, A50, H⟩ := H
 replace H : (if t542 = 0 then ((imageeditorref13_Valid.f a1).bind fun t543 => (if t543 = true then ((imageeditorref02_Valid.f a2_0 a2_1 a2_2 a2_3).bind fun t544 => (if t544 = true then ((imageeditorref02_Valid.f a3_0 a3_1 a3_2 a3_3).bind fun t545 => (if t545 = true then ((imageeditorref02_Empty.f a2_0 a2_1 a2_2 a2_3).bind fun t546 => (if t546 = true then (imageeditorref15_Needs.j0 k a1 true a0_0 a0_1 a0_2 l0_3 a2_0 a2_1 a2_2 a2_3 a3_0 a3_1 a3_2 a3_3) else ((imageeditorref02_Within.f k a2_0 a2_1 a2_2 a2_3 a3_0 a3_1 a3_2 a3_3).bind fun t547 => (imageeditorref15_Needs.j0 k a1 (!t547) a0_0 a0_1 a0_2 l0_3 a2_0 a2_1 a2_2 a2_3 a3_0 a3_1 a3_2 a3_3)))) else (imageeditorref15_Needs.j0 k a1 true a0_0 a0_1 a0_2 l0_3 a2_0 a2_1 a2_2 a2_3 a3_0 a3_1 a3_2 a3_3))) else (imageeditorref15_Needs.j0 k a1 true a0_0 a0_1 a0_2 l0_3 a2_0 a2_1 a2_2 a2_3 a3_0 a3_1 a3_2 a3_3))) else (some (0, 0, 0, 0, 8)))) else (some (0, 0, 0, 0, t542))) = some (r1, r2, r3, r4, r5) := H
 have A5 := Aside0.mk A50
 clear A50
 by_cases c6 : t542 = 0
 ·rw [if_pos c6] at H
  have c6b0 : (t542 == 0) = true := beq_iff_eq.mpr c6
  have c6b1 : (t542 != 0) = false := bne_eq_false_iff_eq.mpr c6
  clear c6
  replace H := Option.bind_eq_some_iff.mp H
  obtain ⟨t543, A70, H⟩ := H
  replace H : (if t543 = true then ((imageeditorref02_Valid.f a2_0 a2_1 a2_2 a2_3).bind fun t544 => (if t544 = true then ((imageeditorref02_Valid.f a3_0 a3_1 a3_2 a3_3).bind fun t545 => (if t545 = true then ((imageeditorref02_Empty.f a2_0 a2_1 a2_2 a2_3).bind fun t546 => (if t546 = true then (imageeditorref15_Needs.j0 k a1 true a0_0 a0_1 a0_2 l0_3 a2_0 a2_1 a2_2 a2_3 a3_0 a3_1 a3_2 a3_3) else ((imageeditorref02_Within.f k a2_0 a2_1 a2_2 a2_3 a3_0 a3_1 a3_2 a3_3).bind fun t547 => (imageeditorref15_Needs.j0 k a1 (!t547) a0_0 a0_1 a0_2 l0_3 a2_0 a2_1 a2_2 a2_3 a3_0 a3_1 a3_2 a3_3)))) else (imageeditorref15_Needs.j0 k a1 true a0_0 a0_1 a0_2 l0_3 a2_0 a2_1 a2_2 a2_3 a3_0 a3_1 a3_2 a3_3))) else (imageeditorref15_Needs.j0 k a1 true a0_0 a0_1 a0_2 l0_3 a2_0 a2_1 a2_2 a2_3 a3_0 a3_1 a3_2 a3_3))) else (some (0, 0, 0, 0, 8))) = some (r1, r2, r3, r4, r5) := H
  have A7 := Aside0.mk A70
  clear A70
  by_cases c8 : t543 = true
  ·subst c8
   have H1 : ((imageeditorref02_Valid.f a2_0 a2_1 a2_2 a2_3).bind fun t544 => (if t544 = true then ((imageeditorref02_Valid.f a3_0 a3_1 a3_2 a3_3).bind fun t545 => (if t545 = true then ((imageeditorref02_Empty.f a2_0 a2_1 a2_2 a2_3).bind fun t546 => (if t546 = true then (imageeditorref15_Needs.j0 k a1 true a0_0 a0_1 a0_2 l0_3 a2_0 a2_1 a2_2 a2_3 a3_0 a3_1 a3_2 a3_3) else ((imageeditorref02_Within.f k a2_0 a2_1 a2_2 a2_3 a3_0 a3_1 a3_2 a3_3).bind fun t547 => (imageeditorref15_Needs.j0 k a1 (!t547) a0_0 a0_1 a0_2 l0_3 a2_0 a2_1 a2_2 a2_3 a3_0 a3_1 a3_2 a3_3)))) else (imageeditorref15_Needs.j0 k a1 true a0_0 a0_1 a0_2 l0_3 a2_0 a2_1 a2_2 a2_3 a3_0 a3_1 a3_2 a3_3))) else (imageeditorref15_Needs.j0 k a1 true a0_0 a0_1 a0_2 l0_3 a2_0 a2_1 a2_2 a2_3 a3_0 a3_1 a3_2 a3_3))) = some (r1, r2, r3, r4, r5) := by rw [if_pos rfl] at H; exact H
   clear H
   have H := H1
   clear H1
   have HC9 := Aside0.mk H
   clear H
   go_enter Try.func18, Try.ntmps18
   go_upto_region 6 with (first | ((with_reducible refine gate_dst (N := 4) rfl ?_); refine box_event ?hg (N := 4) ?hd (cs := #[.int .i64 a0_0, .int .i64 a0_1, .int .i64 a0_2, .slice A0_3 l0_3.length c0_3]) (t := 24) ?hr ?_; (case hd => rfl); (case hg => rfl); (case hr => first | (go_simp; done) | (go_simp; rfl)); intro gb538 hg w10 hbox hb; have GW538 := zg HB hg; have GE538 := zg HB hg; have n0_ := Aside0.mk (hbox); replace HB := zb HB hb; have BK538 := n0_; clear n0_; clear hb hbox hg) | ((with_reducible refine gate_dst (N := 6) rfl ?_); refine box_event ?hg (N := 6) ?hd (cs := #[.int .i64 a2_0, .int .i64 a2_1, .int .i64 a2_2, .int .i64 a2_3]) (t := 34) ?hr ?_; (case hd => rfl); (case hg => rfl); (case hr => first | (go_simp; done) | (go_simp; rfl)); intro gb539 hg w11 hbox hb; have GW539 := zg HB hg; have GE539 := zg HB hg; have NB538_539 := zn BK538 hg; have NB539_538 := zn' BK538 hg; have n0_ := Aside0.mk (hbox); replace BK538 := zk BK538 hb; replace HB := zb HB hb; have BK539 := n0_; clear n0_; clear hb hbox hg) | ((with_reducible refine gate_dst (N := 7) rfl ?_); refine box_event ?hg (N := 7) ?hd (cs := #[.int .i64 a3_0, .int .i64 a3_1, .int .i64 a3_2, .int .i64 a3_3]) (t := 34) ?hr ?_; (case hd => rfl); (case hg => rfl); (case hr => first | (go_simp; done) | (go_simp; rfl)); intro gb540 hg w12 hbox hb; have GW540 := zg HB hg; have GE540 := zg HB hg; have NB538_540 := zn BK538 hg; have NB540_538 := zn' BK538 hg; have NB539_540 := zn BK539 hg; have NB540_539 := zn' BK539 hg; have n0_ := Aside0.mk (hbox); replace BK538 := zk BK538 hb; replace BK539 := zk BK539 hb; replace HB := zb HB hb; have BK540 := n0_; clear n0_; clear hb hbox hg) | ((with_reducible refine gate_dst (N := 8) rfl ?_); refine box_event ?hg (N := 8) ?hd (cs := #[.int .i64 0, .int .i64 0, .int .i64 0, .int .i64 0]) (t := 34) ?hr ?_; (case hd => rfl); (case hg => rfl); (case hr => first | (go_simp; done) | (go_simp; rfl)); intro gb541 hg w13 hbox hb; have GW541 := zg HB hg; have GE541 := zg HB hg; have NB538_541 := zn BK538 hg; have NB541_538 := zn' BK538 hg; have NB539_541 := zn BK539 hg; have NB541_539 := zn' BK539 hg; have NB540_541 := zn BK540 hg; have NB541_540 := zn' BK540 hg; have n0_ := Aside0.mk (hbox); replace BK538 := zk BK538 hb; replace BK539 := zk BK539 hb; replace BK540 := zk BK540 hb; replace HB := zb HB hb; have BK541 := n0_; clear n0_; clear hb hbox hg; obtain ⟨hcz14_0, hcz14_1, hcz14_2, hcz14_3, hfz14_0, hfz14_1, hfz14_2, hfz14_3⟩ := zq4 BK538) | ((with_reducible refine gate_callee (f := 11) rfl ?_); refine goesL_ (some 12) rfl rfl Try.func11 (by kernel_rfl) rfl #[.agg #[.int .i64 a0_0, .int .i64 a0_1, .int .i64 a0_2, .slice A0_3 l0_3.length c0_3]] rfl (by (try simp only [List.map_toArray, List.map_cons, List.map_nil]); first | done | rfl | (simp only [List.length_drop, List.length_take]; rfl)) ?_; (with_reducible refine (imageeditorref15_Check.calls k a0_0 a0_1 a0_2 _ _ l0_3 t542 _ ?side1 ?side2 A5.out).mono ?_); (case side1 => repeat (first | exact (Kd.C_below HR0_3.out HB.out) | (with_reducible refine Kd.C_alloc ?_ _) | (with_reducible refine Kd.C_drewN ?_ _) | (with_reducible refine Kd.C_drew ?_))); (case side2 => exact HC0_3.out); rintro e w15 ⟨rfl, hb⟩; refine ⟨_, rfl, ?_⟩; replace BK538 := zk BK538 hb; replace BK539 := zk BK539 hb; replace BK540 := zk BK540 hb; replace BK541 := zk BK541 hb; replace HB := zb HB hb; (try clear hb); (try clear hb2); (try clear hk); (try clear hi)) | ((with_reducible refine gate_callee (f := 40) rfl ?_); refine goesL_ (some 18) rfl rfl Try.func40 (by kernel_rfl) rfl #[.int .i64 a1] rfl (by (try simp only [List.map_toArray, List.map_cons, List.map_nil]); first | done | rfl | (simp only [List.length_drop, List.length_take]; rfl)) ?_; (with_reducible refine (imageeditorref13_Valid.calls a1 true _ A7.out).mono ?_); rintro e w' ⟨rfl, ⟨nd, rfl⟩⟩; refine ⟨_, rfl, ?_⟩))
   (try simp only [Act.put, sA, sB, sC])
   go_cut [38] (fun v38 wc => ∃ (kq : Nat) (x38_8 : Bool), v38 = .bool x38_8 ∧ Aside0 (imageeditorref15_Needs.j0 kq a1 x38_8 a0_0 a0_1 a0_2 l0_3 a2_0 a2_1 a2_2 a2_3 a3_0 a3_1 a3_2 a3_3 = some (r1, r2, r3, r4, r5)) ∧ Aside0 (kq ≤ k) ∧ Aside0 (wc.heap[gb538]? = some (.cells #[.int .i64 a0_0, .int .i64 a0_1, .int .i64 a0_2, (.slice A0_3 l0_3.length c0_3)] 24 (0, 0))) ∧ Aside0 (wc.heap[gb539]? = some (.cells #[.int .i64 a2_0, .int .i64 a2_1, .int .i64 a2_2, .int .i64 a2_3] 34 (0, 0))) ∧ Aside0 (wc.heap[gb540]? = some (.cells #[.int .i64 a3_0, .int .i64 a3_1, .int .i64 a3_2, .int .i64 a3_3] 34 (0, 0))) ∧ Aside0 (wc.heap[gb541]? = some (.cells #[.int .i64 0, .int .i64 0, .int .i64 0, .int .i64 0] 34 (0, 0))) ∧ Aside0 (Below w.heap.size w wc))
   case first =>
    have H := HC9.out
    clear HC9
    replace H := Option.bind_eq_some_iff.mp H
    obtain ⟨t544, A160, H⟩ := H
    replace H : (if t544 = true then ((imageeditorref02_Valid.f a3_0 a3_1 a3_2 a3_3).bind fun t545 => (if t545 = true then ((imageeditorref02_Empty.f a2_0 a2_1 a2_2 a2_3).bind fun t546 => (if t546 = true then (imageeditorref15_Needs.j0 k a1 true a0_0 a0_1 a0_2 l0_3 a2_0 a2_1 a2_2 a2_3 a3_0 a3_1 a3_2 a3_3) else ((imageeditorref02_Within.f k a2_0 a2_1 a2_2 a2_3 a3_0 a3_1 a3_2 a3_3).bind fun t547 => (imageeditorref15_Needs.j0 k a1 (!t547) a0_0 a0_1 a0_2 l0_3 a2_0 a2_1 a2_2 a2_3 a3_0 a3_1 a3_2 a3_3)))) else (imageeditorref15_Needs.j0 k a1 true a0_0 a0_1 a0_2 l0_3 a2_0 a2_1 a2_2 a2_3 a3_0 a3_1 a3_2 a3_3))) else (imageeditorref15_Needs.j0 k a1 true a0_0 a0_1 a0_2 l0_3 a2_0 a2_1 a2_2 a2_3 a3_0 a3_1 a3_2 a3_3)) = some (r1, r2, r3, r4, r5) := H
    have A16 := Aside0.mk A160
    clear A160
    by_cases c17 : t544 = true
    ·subst c17
     have H1 : ((imageeditorref02_Valid.f a3_0 a3_1 a3_2 a3_3).bind fun t545 => (if t545 = true then ((imageeditorref02_Empty.f a2_0 a2_1 a2_2 a2_3).bind fun t546 => (if t546 = true then (imageeditorref15_Needs.j0 k a1 true a0_0 a0_1 a0_2 l0_3 a2_0 a2_1 a2_2 a2_3 a3_0 a3_1 a3_2 a3_3) else ((imageeditorref02_Within.f k a2_0 a2_1 a2_2 a2_3 a3_0 a3_1 a3_2 a3_3).bind fun t547 => (imageeditorref15_Needs.j0 k a1 (!t547) a0_0 a0_1 a0_2 l0_3 a2_0 a2_1 a2_2 a2_3 a3_0 a3_1 a3_2 a3_3)))) else (imageeditorref15_Needs.j0 k a1 true a0_0 a0_1 a0_2 l0_3 a2_0 a2_1 a2_2 a2_3 a3_0 a3_1 a3_2 a3_3))) = some (r1, r2, r3, r4, r5) := by rw [if_pos rfl] at H; exact H
     clear H
     have H := H1
     clear H1
     replace H := Option.bind_eq_some_iff.mp H
     obtain ⟨t545, A180, H⟩ := H
     replace H : (if t545 = true then ((imageeditorref02_Empty.f a2_0 a2_1 a2_2 a2_3).bind fun t546 => (if t546 = true then (imageeditorref15_Needs.j0 k a1 true a0_0 a0_1 a0_2 l0_3 a2_0 a2_1 a2_2 a2_3 a3_0 a3_1 a3_2 a3_3) else ((imageeditorref02_Within.f k a2_0 a2_1 a2_2 a2_3 a3_0 a3_1 a3_2 a3_3).bind fun t547 => (imageeditorref15_Needs.j0 k a1 (!t547) a0_0 a0_1 a0_2 l0_3 a2_0 a2_1 a2_2 a2_3 a3_0 a3_1 a3_2 a3_3)))) else (imageeditorref15_Needs.j0 k a1 true a0_0 a0_1 a0_2 l0_3 a2_0 a2_1 a2_2 a2_3 a3_0 a3_1 a3_2 a3_3)) = some (r1, r2, r3, r4, r5) := H
     have A18 := Aside0.mk A180
     clear A180
     by_cases c19 : t545 = true
     ·subst c19
      have H1 : ((imageeditorref02_Empty.f a2_0 a2_1 a2_2 a2_3).bind fun t546 => (if t546 = true then (imageeditorref15_Needs.j0 k a1 true a0_0 a0_1 a0_2 l0_3 a2_0 a2_1 a2_2 a2_3 a3_0 a3_1 a3_2 a3_3) else ((imageeditorref02_Within.f k a2_0 a2_1 a2_2 a2_3 a3_0 a3_1 a3_2 a3_3).bind fun t547 => (imageeditorref15_Needs.j0 k a1 (!t547) a0_0 a0_1 a0_2 l0_3 a2_0 a2_1 a2_2 a2_3 a3_0 a3_1 a3_2 a3_3)))) = some (r1, r2, r3, r4, r5) := by rw [if_pos rfl] at H; exact H
      clear H
      have H := H1
      clear H1
      replace H := Option.bind_eq_some_iff.mp H
      obtain ⟨t546, A200, H⟩ := H
      replace H : (if t546 = true then (imageeditorref15_Needs.j0 k a1 true a0_0 a0_1 a0_2 l0_3 a2_0 a2_1 a2_2 a2_3 a3_0 a3_1 a3_2 a3_3) else ((imageeditorref02_Within.f k a2_0 a2_1 a2_2 a2_3 a3_0 a3_1 a3_2 a3_3).bind fun t547 => (imageeditorref15_Needs.j0 k a1 (!t547) a0_0 a0_1 a0_2 l0_3 a2_0 a2_1 a2_2 a2_3 a3_0 a3_1 a3_2 a3_3))) = some (r1, r2, r3, r4, r5) := H
      have A20 := Aside0.mk A200
      clear A200
      by_cases c21 : t546 = true
      ·subst c21
       have H1 : (imageeditorref15_Needs.j0 k a1 true a0_0 a0_1 a0_2 l0_3 a2_0 a2_1 a2_2 a2_3 a3_0 a3_1 a3_2 a3_3) = some (r1, r2, r3, r4, r5) := by rw [if_pos rfl] at H; exact H
       clear H
       have H := H1
       clear H1
       have H' := Aside0.mk H
       clear H
       obtain ⟨hcz22_0, hcz22_1, hcz22_2, hcz22_3, hfz22_0, hfz22_1, hfz22_2, hfz22_3⟩ := zq4 BK539
       go_wp2_with (first | ((with_reducible refine gate_callee (f := 41) rfl ?_); refine goesL_ (some 22) rfl rfl Try.func41 (by kernel_rfl) rfl #[.agg #[.int .i64 a2_0, .int .i64 a2_1, .int .i64 a2_2, .int .i64 a2_3]] rfl (by (try simp only [List.map_toArray, List.map_cons, List.map_nil]); first | done | rfl | (simp only [List.length_drop, List.length_take]; rfl)) ?_; (with_reducible refine (imageeditorref02_Valid.calls a2_0 a2_1 a2_2 a2_3 true _ A16.out).mono ?_); rintro e w23 ⟨rfl, hb⟩; refine ⟨_, rfl, ?_⟩; replace BK538 := zk BK538 hb; replace BK539 := zk BK539 hb; replace BK540 := zk BK540 hb; replace BK541 := zk BK541 hb; replace HB := zb HB hb; (try clear hb); (try clear hb2); (try clear hk); (try clear hi); obtain ⟨hcz24_0, hcz24_1, hcz24_2, hcz24_3, hfz24_0, hfz24_1, hfz24_2, hfz24_3⟩ := zq4 BK540) | (go_at_call 41; (with_reducible refine (imageeditorref02_Valid.calls a3_0 a3_1 a3_2 a3_3 true _ A18.out).mono ?_); rintro e w25 ⟨rfl, hb⟩; replace BK538 := zk BK538 hb; replace BK539 := zk BK539 hb; replace BK540 := zk BK540 hb; replace BK541 := zk BK541 hb; replace HB := zb HB hb; (try clear hb); (try clear hb2); (try clear hk); (try clear hi); obtain ⟨hcz26_0, hcz26_1, hcz26_2, hcz26_3, hfz26_0, hfz26_1, hfz26_2, hfz26_3⟩ := zq4 BK539) | (go_at_call 42; (with_reducible refine (imageeditorref02_Empty.calls a2_0 a2_1 a2_2 a2_3 true _ A20.out).mono ?_); rintro e w27 ⟨rfl, hb⟩; replace BK538 := zk BK538 hb; replace BK539 := zk BK539 hb; replace BK540 := zk BK540 hb; replace BK541 := zk BK541 hb; replace HB := zb HB hb; (try clear hb); (try clear hb2); (try clear hk); (try clear hi)))
       go_meet
       case rel => exact ⟨_, (true), (by first | rfl | (simp; done) | (simp [*]; done)), H', ⟨by first | omega | exact Nat.le_refl _⟩, ⟨by exact zk0 BK538⟩, ⟨by exact zk0 BK539⟩, ⟨by exact zk0 BK540⟩, ⟨by exact zk0 BK541⟩, ⟨by exact zb0 HB⟩⟩
      ·replace c21 := Bool.eq_false_iff.mpr c21
       subst c21
       have H1 : ((imageeditorref02_Within.f k a2_0 a2_1 a2_2 a2_3 a3_0 a3_1 a3_2 a3_3).bind fun t547 => (imageeditorref15_Needs.j0 k a1 (!t547) a0_0 a0_1 a0_2 l0_3 a2_0 a2_1 a2_2 a2_3 a3_0 a3_1 a3_2 a3_3)) = some (r1, r2, r3, r4, r5) := by rw [if_neg (show ¬ (false = true) by decide)] at H; exact H
       clear H
       have H := H1
       clear H1
       replace H := Option.bind_eq_some_iff.mp H
       obtain ⟨t547, A280, H⟩ := H
       replace H : (imageeditorref15_Needs.j0 k a1 (!t547) a0_0 a0_1 a0_2 l0_3 a2_0 a2_1 a2_2 a2_3 a3_0 a3_1 a3_2 a3_3) = some (r1, r2, r3, r4, r5) := H
       have A28 := Aside0.mk A280
       clear A280
       have H' := Aside0.mk H
       clear H
       obtain ⟨hcz29_0, hcz29_1, hcz29_2, hcz29_3, hfz29_0, hfz29_1, hfz29_2, hfz29_3⟩ := zq4 BK539
       go_wp2_with (first | ((with_reducible refine gate_callee (f := 41) rfl ?_); refine goesL_ (some 22) rfl rfl Try.func41 (by kernel_rfl) rfl #[.agg #[.int .i64 a2_0, .int .i64 a2_1, .int .i64 a2_2, .int .i64 a2_3]] rfl (by (try simp only [List.map_toArray, List.map_cons, List.map_nil]); first | done | rfl | (simp only [List.length_drop, List.length_take]; rfl)) ?_; (with_reducible refine (imageeditorref02_Valid.calls a2_0 a2_1 a2_2 a2_3 true _ A16.out).mono ?_); rintro e w30 ⟨rfl, hb⟩; refine ⟨_, rfl, ?_⟩; replace BK538 := zk BK538 hb; replace BK539 := zk BK539 hb; replace BK540 := zk BK540 hb; replace BK541 := zk BK541 hb; replace HB := zb HB hb; (try clear hb); (try clear hb2); (try clear hk); (try clear hi); obtain ⟨hcz31_0, hcz31_1, hcz31_2, hcz31_3, hfz31_0, hfz31_1, hfz31_2, hfz31_3⟩ := zq4 BK540) | (go_at_call 41; (with_reducible refine (imageeditorref02_Valid.calls a3_0 a3_1 a3_2 a3_3 true _ A18.out).mono ?_); rintro e w32 ⟨rfl, hb⟩; replace BK538 := zk BK538 hb; replace BK539 := zk BK539 hb; replace BK540 := zk BK540 hb; replace BK541 := zk BK541 hb; replace HB := zb HB hb; (try clear hb); (try clear hb2); (try clear hk); (try clear hi); obtain ⟨hcz33_0, hcz33_1, hcz33_2, hcz33_3, hfz33_0, hfz33_1, hfz33_2, hfz33_3⟩ := zq4 BK539) | (go_at_call 42; (with_reducible refine (imageeditorref02_Empty.calls a2_0 a2_1 a2_2 a2_3 false _ A20.out).mono ?_); rintro e w34 ⟨rfl, hb⟩; replace BK538 := zk BK538 hb; replace BK539 := zk BK539 hb; replace BK540 := zk BK540 hb; replace BK541 := zk BK541 hb; replace HB := zb HB hb; (try clear hb); (try clear hb2); (try clear hk); (try clear hi); obtain ⟨hcz35_0, hcz35_1, hcz35_2, hcz35_3, hfz35_0, hfz35_1, hfz35_2, hfz35_3⟩ := zq4 BK539; obtain ⟨hcz36_0, hcz36_1, hcz36_2, hcz36_3, hfz36_0, hfz36_1, hfz36_2, hfz36_3⟩ := zq4 BK540) | (go_at_call 43; (with_reducible refine (imageeditorref02_Within.calls k a2_0 a2_1 a2_2 a2_3 a3_0 a3_1 a3_2 a3_3 t547 _ A28.out).mono ?_); rintro e w37 ⟨rfl, hb⟩; replace BK538 := zk BK538 hb; replace BK539 := zk BK539 hb; replace BK540 := zk BK540 hb; replace BK541 := zk BK541 hb; replace HB := zb HB hb; (try clear hb); (try clear hb2); (try clear hk); (try clear hi)))
       go_meet
       case rel => exact ⟨_, (!t547), (by first | rfl | (simp; done) | (simp [*]; done)), H', ⟨by first | omega | exact Nat.le_refl _⟩, ⟨by exact zk0 BK538⟩, ⟨by exact zk0 BK539⟩, ⟨by exact zk0 BK540⟩, ⟨by exact zk0 BK541⟩, ⟨by exact zb0 HB⟩⟩
     ·replace c19 := Bool.eq_false_iff.mpr c19
      subst c19
      have H1 : (imageeditorref15_Needs.j0 k a1 true a0_0 a0_1 a0_2 l0_3 a2_0 a2_1 a2_2 a2_3 a3_0 a3_1 a3_2 a3_3) = some (r1, r2, r3, r4, r5) := by rw [if_neg (show ¬ (false = true) by decide)] at H; exact H
      clear H
      have H := H1
      clear H1
      have H' := Aside0.mk H
      clear H
      obtain ⟨hcz38_0, hcz38_1, hcz38_2, hcz38_3, hfz38_0, hfz38_1, hfz38_2, hfz38_3⟩ := zq4 BK539
      go_wp2_with (first | ((with_reducible refine gate_callee (f := 41) rfl ?_); refine goesL_ (some 22) rfl rfl Try.func41 (by kernel_rfl) rfl #[.agg #[.int .i64 a2_0, .int .i64 a2_1, .int .i64 a2_2, .int .i64 a2_3]] rfl (by (try simp only [List.map_toArray, List.map_cons, List.map_nil]); first | done | rfl | (simp only [List.length_drop, List.length_take]; rfl)) ?_; (with_reducible refine (imageeditorref02_Valid.calls a2_0 a2_1 a2_2 a2_3 true _ A16.out).mono ?_); rintro e w39 ⟨rfl, hb⟩; refine ⟨_, rfl, ?_⟩; replace BK538 := zk BK538 hb; replace BK539 := zk BK539 hb; replace BK540 := zk BK540 hb; replace BK541 := zk BK541 hb; replace HB := zb HB hb; (try clear hb); (try clear hb2); (try clear hk); (try clear hi); obtain ⟨hcz40_0, hcz40_1, hcz40_2, hcz40_3, hfz40_0, hfz40_1, hfz40_2, hfz40_3⟩ := zq4 BK540) | (go_at_call 41; (with_reducible refine (imageeditorref02_Valid.calls a3_0 a3_1 a3_2 a3_3 false _ A18.out).mono ?_); rintro e w41 ⟨rfl, hb⟩; replace BK538 := zk BK538 hb; replace BK539 := zk BK539 hb; replace BK540 := zk BK540 hb; replace BK541 := zk BK541 hb; replace HB := zb HB hb; (try clear hb); (try clear hb2); (try clear hk); (try clear hi)))
      go_meet
      case rel => exact ⟨_, (true), (by first | rfl | (simp; done) | (simp [*]; done)), H', ⟨by first | omega | exact Nat.le_refl _⟩, ⟨by exact zk0 BK538⟩, ⟨by exact zk0 BK539⟩, ⟨by exact zk0 BK540⟩, ⟨by exact zk0 BK541⟩, ⟨by exact zb0 HB⟩⟩
    ·replace c17 := Bool.eq_false_iff.mpr c17
     subst c17
     have H1 : (imageeditorref15_Needs.j0 k a1 true a0_0 a0_1 a0_2 l0_3 a2_0 a2_1 a2_2 a2_3 a3_0 a3_1 a3_2 a3_3) = some (r1, r2, r3, r4, r5) := by rw [if_neg (show ¬ (false = true) by decide)] at H; exact H
     clear H
     have H := H1
     clear H1
     have H' := Aside0.mk H
     clear H
     obtain ⟨hcz42_0, hcz42_1, hcz42_2, hcz42_3, hfz42_0, hfz42_1, hfz42_2, hfz42_3⟩ := zq4 BK539
     go_wp2_with (first | ((with_reducible refine gate_callee (f := 41) rfl ?_); refine goesL_ (some 22) rfl rfl Try.func41 (by kernel_rfl) rfl #[.agg #[.int .i64 a2_0, .int .i64 a2_1, .int .i64 a2_2, .int .i64 a2_3]] rfl (by (try simp only [List.map_toArray, List.map_cons, List.map_nil]); first | done | rfl | (simp only [List.length_drop, List.length_take]; rfl)) ?_; (with_reducible refine (imageeditorref02_Valid.calls a2_0 a2_1 a2_2 a2_3 false _ A16.out).mono ?_); rintro e w43 ⟨rfl, hb⟩; refine ⟨_, rfl, ?_⟩; replace BK538 := zk BK538 hb; replace BK539 := zk BK539 hb; replace BK540 := zk BK540 hb; replace BK541 := zk BK541 hb; replace HB := zb HB hb; (try clear hb); (try clear hb2); (try clear hk); (try clear hi)))
     go_meet
     case rel => exact ⟨_, (true), (by first | rfl | (simp; done) | (simp [*]; done)), H', ⟨by first | omega | exact Nat.le_refl _⟩, ⟨by exact zk0 BK538⟩, ⟨by exact zk0 BK539⟩, ⟨by exact zk0 BK540⟩, ⟨by exact zk0 BK541⟩, ⟨by exact zb0 HB⟩⟩
   case rest =>
    clear HC9
    try clear c1
    try clear c2
    try clear p2
    try clear c4
    try clear q4
    try clear c6
    try clear c6b0
    try clear c6b1
    try clear c8
    try clear c11
    try clear c17
    try clear c18
    try clear c19
    try clear c21
    try clear c40
    try clear c41
    try clear hcz14_0
    try clear hcz14_1
    try clear hcz14_2
    try clear hcz14_3
    try clear hcz22_0
    try clear hcz22_1
    try clear hcz22_2
    try clear hcz22_3
    try clear hcz24_0
    try clear hcz24_1
    try clear hcz24_2
    try clear hcz24_3
    try clear hcz26_0
    try clear hcz26_1
    try clear hcz26_2
    try clear hcz26_3
    try clear hcz29_0
    try clear hcz29_1
    try clear hcz29_2
    try clear hcz29_3
    try clear hcz31_0
    try clear hcz31_1
    try clear hcz31_2
    try clear hcz31_3
    try clear hcz33_0
    try clear hcz33_1
    try clear hcz33_2
    try clear hcz33_3
    try clear hcz35_0
    try clear hcz35_1
    try clear hcz35_2
    try clear hcz35_3
    try clear hcz36_0
    try clear hcz36_1
    try clear hcz36_2
    try clear hcz36_3
    try clear hcz38_0
    try clear hcz38_1
    try clear hcz38_2
    try clear hcz38_3
    try clear hcz40_0
    try clear hcz40_1
    try clear hcz40_2
    try clear hcz40_3
    try clear hcz42_0
    try clear hcz42_1
    try clear hcz42_2
    try clear hcz42_3
    try clear hfz14_0
    try clear hfz14_1
    try clear hfz14_2
    try clear hfz14_3
    try clear hfz22_0
    try clear hfz22_1
    try clear hfz22_2
    try clear hfz22_3
    try clear hfz24_0
    try clear hfz24_1
    try clear hfz24_2
    try clear hfz24_3
    try clear hfz26_0
    try clear hfz26_1
    try clear hfz26_2
    try clear hfz26_3
    try clear hfz29_0
    try clear hfz29_1
    try clear hfz29_2
    try clear hfz29_3
    try clear hfz31_0
    try clear hfz31_1
    try clear hfz31_2
    try clear hfz31_3
    try clear hfz33_0
    try clear hfz33_1
    try clear hfz33_2
    try clear hfz33_3
    try clear hfz35_0
    try clear hfz35_1
    try clear hfz35_2
    try clear hfz35_3
    try clear hfz36_0
    try clear hfz36_1
    try clear hfz36_2
    try clear hfz36_3
    try clear hfz38_0
    try clear hfz38_1
    try clear hfz38_2
    try clear hfz38_3
    try clear hfz40_0
    try clear hfz40_1
    try clear hfz40_2
    try clear hfz40_3
    try clear hfz42_0
    try clear hfz42_1
    try clear hfz42_2
    try clear hfz42_3
    obtain ⟨kq, x38_8, rfl, HA, HJ8, BK538, BK539, BK540, BK541, HB⟩ := hcut
    cases kq with
    | zero => exact absurd HA.out (by simp [imageeditorref15_Needs.j0])
    | succ kj8 =>
     have H := HA.out
     clear HA
     simp only [imageeditorref15_Needs.j0] at H
     by_cases c44 : x38_8 = true
     ·subst c44
      have H1 : (some (0, 0, 0, 0, 2)) = some (r1, r2, r3, r4, r5) := by rw [if_pos rfl] at H; exact H
      clear H
      have H := H1
      clear H1
      simp only [Option.some.injEq, Prod.mk.injEq] at H
      obtain ⟨rfl, rfl, rfl, rfl, rfl⟩ := H
      have hnb45 := NB541_538.out
      have hnc45 := NB538_541.out
      have hnb46 := NB541_539.out
      have hnc46 := NB539_541.out
      have hnb47 := NB541_540.out
      have hnc47 := NB540_541.out
      obtain ⟨hcz48_0, hcz48_1, hcz48_2, hcz48_3, hfz48_0, hfz48_1, hfz48_2, hfz48_3⟩ := zq4 BK541
      go_wp2
      refine bodyPost_ret (results_ct rfl _ _ gb541 34 #[.int .i64 0, .int .i64 0, .int .i64 0, .int .i64 0] (0, 0) _ rfl (by exact zp BK541 rfl) Try.underlying34 rfl (by kernel_rfl)) rfl ?_
      exact ⟨by first | rfl | (simp [errW_none, errW_some] <;> rfl) | (simp [*, errW_none, errW_some] <;> rfl), by exact zbo HB GE541⟩
     ·replace c44 := Bool.eq_false_iff.mpr c44
      subst c44
      have H1 : ((imageeditorref15_Reach.f kj8 a0_0 a0_1 a0_2 l0_3).bind fun t548 => ((imageeditorref13_Support.f kj8 a1).bind fun t549 => ((imageeditorref02_Grow.f kj8 a2_0 a2_1 a2_2 a2_3 (wrap64 ((wrap64 (t548 + t549)) + 1))).bind fun bt550 => ((imageeditorref02_Meet.f kj8 bt550.1 bt550.2.1 bt550.2.2.1 bt550.2.2.2 a3_0 a3_1 a3_2 a3_3).bind fun bt554 => (some (bt554.1, bt554.2.1, bt554.2.2.1, bt554.2.2.2, 0)))))) = some (r1, r2, r3, r4, r5) := by rw [if_neg (show ¬ (false = true) by decide)] at H; exact H
      clear H
      have H := H1
      clear H1
      replace H := Option.bind_eq_some_iff.mp H
      obtain ⟨t548, A490, H⟩ := H
      replace H : ((imageeditorref13_Support.f kj8 a1).bind fun t549 => ((imageeditorref02_Grow.f kj8 a2_0 a2_1 a2_2 a2_3 (wrap64 ((wrap64 (t548 + t549)) + 1))).bind fun bt550 => ((imageeditorref02_Meet.f kj8 bt550.1 bt550.2.1 bt550.2.2.1 bt550.2.2.2 a3_0 a3_1 a3_2 a3_3).bind fun bt554 => (some (bt554.1, bt554.2.1, bt554.2.2.1, bt554.2.2.2, 0))))) = some (r1, r2, r3, r4, r5) := H
      have A49 := Aside0.mk A490
      clear A490
      replace H := Option.bind_eq_some_iff.mp H
      obtain ⟨t549, A500, H⟩ := H
      replace H : ((imageeditorref02_Grow.f kj8 a2_0 a2_1 a2_2 a2_3 (wrap64 ((wrap64 (t548 + t549)) + 1))).bind fun bt550 => ((imageeditorref02_Meet.f kj8 bt550.1 bt550.2.1 bt550.2.2.1 bt550.2.2.2 a3_0 a3_1 a3_2 a3_3).bind fun bt554 => (some (bt554.1, bt554.2.1, bt554.2.2.1, bt554.2.2.2, 0)))) = some (r1, r2, r3, r4, r5) := H
      have A50 := Aside0.mk A500
      clear A500
      replace H := Option.bind_eq_some_iff.mp H
      obtain ⟨⟨t550, t551, t552, t553⟩, A510, H⟩ := H
      replace H : ((imageeditorref02_Meet.f kj8 t550 t551 t552 t553 a3_0 a3_1 a3_2 a3_3).bind fun bt554 => (some (bt554.1, bt554.2.1, bt554.2.2.1, bt554.2.2.2, 0))) = some (r1, r2, r3, r4, r5) := H
      have A51 := Aside0.mk A510
      clear A510
      replace H := Option.bind_eq_some_iff.mp H
      obtain ⟨⟨t554, t555, t556, t557⟩, A520, H⟩ := H
      replace H : (some (t554, t555, t556, t557, 0)) = some (r1, r2, r3, r4, r5) := H
      have A52 := Aside0.mk A520
      clear A520
      simp only [Option.some.injEq, Prod.mk.injEq] at H
      obtain ⟨rfl, rfl, rfl, rfl, rfl⟩ := H
      try go_wp2
      replace BK538 := zkd BK538
      replace BK539 := zkd BK539
      replace BK540 := zkd BK540
      replace BK541 := zkd BK541
      replace HB := zbd HB
      refine start_ (n := 12) (S := fun w' => w'.cell? ⟨gb539, 0, none⟩ = some (.int .i64 a2_0) ∧ w'.cell? ⟨gb539, 1, none⟩ = some (.int .i64 a2_1) ∧ w'.cell? ⟨gb539, 2, none⟩ = some (.int .i64 a2_2) ∧ w'.cell? ⟨gb539, 3, none⟩ = some (.int .i64 a2_3) ∧ w'.cell? ⟨gb538, 0, none⟩ = some (.int .i64 a0_0) ∧ w'.cell? ⟨gb538, 1, none⟩ = some (.int .i64 a0_1) ∧ w'.cell? ⟨gb538, 2, none⟩ = some (.int .i64 a0_2) ∧ w'.cell? ⟨gb538, 3, none⟩ = some (.slice A0_3 l0_3.length c0_3) ∧ w'.cell? ⟨gb540, 0, none⟩ = some (.int .i64 a3_0) ∧ w'.cell? ⟨gb540, 1, none⟩ = some (.int .i64 a3_1) ∧ w'.cell? ⟨gb540, 2, none⟩ = some (.int .i64 a3_2) ∧ w'.cell? ⟨gb540, 3, none⟩ = some (.int .i64 a3_3)) (ds := []) (bs 12 0) (by kernel_rfl) rfl rfl ⟨(blk_cell BK539.out 0).trans rfl, (blk_cell BK539.out 1).trans rfl, (blk_cell BK539.out 2).trans rfl, (blk_cell BK539.out 3).trans rfl, (blk_cell BK538.out 0).trans rfl, (blk_cell BK538.out 1).trans rfl, (blk_cell BK538.out 2).trans rfl, (blk_cell BK538.out 3).trans rfl, (blk_cell BK540.out 0).trans rfl, (blk_cell BK540.out 1).trans rfl, (blk_cell BK540.out 2).trans rfl, (blk_cell BK540.out 3).trans rfl⟩ (fun hHeld => ?_); refine with_tabW imageeditorref15_Needs.tab8 imageeditorref15_Needs.bits8 (fun HT_ HW_ => ?_)
      generalize wc.drew = w53 at BK538 BK539 BK540 BK541 HB hHeld ⊢
      refine pure_ (i := 3) (N := some 43) (v := ?_) (a' := ?_) (bs 12 8) rfl rfl (any_of HT_.out (by kernel_rfl)) (fun _ _ _ h => h) (Or.inl ⟨by rfl, ?_⟩) ?_ ?_
      rotate_left
      ·intro w'
       go_simp
       with_reducible rfl
      rotate_left
      ·simp only [Act.put, sA, sB, sC, i64_w, i32_w]
       rfl
      refine take_ (i := 0) (N := some 40) (v := ?_) (a' := ?_) (bs 12 9) rfl rfl (take_ofW HT_.out HW_.out (by kernel_rfl)) (fun _ _ _ h => h) (Or.inl ⟨by rfl, ?_⟩) hHeld ?_ ?_
      rotate_left
      ·rintro w' ⟨s0, s1, s2, s3, s4, s5, s6, s7, s8, s9, s10, s11⟩
       go_simp
       with_reducible rfl
      rotate_left
      ·simp only [Act.put, sA, sB, sC, i64_w, i32_w]
       rfl
      refine take_ (i := 1) (N := some 41) (v := ?_) (a' := ?_) (bs 12 11) rfl rfl (take_ofW HT_.out HW_.out (by kernel_rfl)) (fun _ _ _ h => h) (Or.inl ⟨by rfl, ?_⟩) hHeld ?_ ?_
      rotate_left
      ·rintro w' ⟨s0, s1, s2, s3, s4, s5, s6, s7, s8, s9, s10, s11⟩
       go_simp
       with_reducible rfl
      rotate_left
      ·simp only [Act.put, sA, sB, sC, i64_w, i32_w]
       rfl
      refine take_ (i := 8) (N := some 48) (v := ?_) (a' := ?_) (bs 12 267) rfl rfl (take_ofW HT_.out HW_.out (by kernel_rfl)) (fun _ _ _ h => h) (Or.inl ⟨by rfl, ?_⟩) hHeld ?_ ?_
      rotate_left
      ·rintro w' ⟨s0, s1, s2, s3, s4, s5, s6, s7, s8, s9, s10, s11⟩
       go_simp
       with_reducible rfl
      rotate_left
      ·simp only [Act.put, sA, sB, sC, i64_w, i32_w]
       rfl
      refine one_ (i := 2) (N := some 42) (bs 12 271) rfl rfl (one_of HT_.out (by kernel_rfl)) (by decide) (fun K hK => ?_)
      refine goes_ Try.func15 (by kernel_rfl) rfl #[.agg #[.int .i64 a0_0, .int .i64 a0_1, .int .i64 a0_2, .slice A0_3 l0_3.length c0_3]] (by rfl) rfl rfl (by (try simp only [List.map_toArray, List.map_cons, List.map_nil]); first | done | rfl | (simp only [List.length_drop, List.length_take]; rfl)) ?_
      with_reducible refine (imageeditorref15_Reach.calls kj8 a0_0 a0_1 a0_2 _ _ l0_3 t548 _ ?side1 ?side2 A49.out).mono ?_
      (case side1 => repeat (first | exact (Kd.C_below HR0_3.out HB.out) | (with_reducible refine Kd.C_alloc ?_ _) | (with_reducible refine Kd.C_drewN ?_ _) | (with_reducible refine Kd.C_drew ?_)))
      (case side2 => exact HC0_3.out)
      rintro e w54 ⟨rfl, hb⟩
      refine ⟨_, rfl, ?_⟩
      replace BK538 := zk BK538 hb
      replace BK539 := zk BK539 hb
      replace BK540 := zk BK540 hb
      replace BK541 := zk BK541 hb
      replace HB := zb HB hb
      (try clear hb)
      (try clear hb2)
      (try clear hk)
      (try clear hi)
      refine hK.out _ _ ⟨(blk_cell BK539.out 0).trans rfl, (blk_cell BK539.out 1).trans rfl, (blk_cell BK539.out 2).trans rfl, (blk_cell BK539.out 3).trans rfl, (blk_cell BK538.out 0).trans rfl, (blk_cell BK538.out 1).trans rfl, (blk_cell BK538.out 2).trans rfl, (blk_cell BK538.out 3).trans rfl, (blk_cell BK540.out 0).trans rfl, (blk_cell BK540.out 1).trans rfl, (blk_cell BK540.out 2).trans rfl, (blk_cell BK540.out 3).trans rfl⟩ (fun hHeld => ?_)
      clear hK K
      refine norm_ (a' := ?_) ?_ ?_
      rotate_left
      ·show Act.put _ (some 42) _ = _
       simp only [Act.put, sA, sB, sC, i64_w, i32_w]
       rfl
      refine one_ (i := 4) (N := some 44) (bs 12 287) rfl rfl (one_of HT_.out (by kernel_rfl)) (by decide) (fun K hK => ?_)
      refine goes_ Try.func46 (by kernel_rfl) rfl #[.int .i64 a1] (by rfl) rfl rfl (by (try simp only [List.map_toArray, List.map_cons, List.map_nil]); first | done | rfl | (simp only [List.length_drop, List.length_take]; rfl)) ?_
      with_reducible refine (imageeditorref13_Support.calls kj8 a1 t549 _ A50.out).mono ?_
      rintro e w' ⟨rfl, ⟨nd, rfl⟩⟩
      refine ⟨_, rfl, ?_⟩
      refine hK.out _ _ ⟨(blk_cell BK539.out 0).trans rfl, (blk_cell BK539.out 1).trans rfl, (blk_cell BK539.out 2).trans rfl, (blk_cell BK539.out 3).trans rfl, (blk_cell BK538.out 0).trans rfl, (blk_cell BK538.out 1).trans rfl, (blk_cell BK538.out 2).trans rfl, (blk_cell BK538.out 3).trans rfl, (blk_cell BK540.out 0).trans rfl, (blk_cell BK540.out 1).trans rfl, (blk_cell BK540.out 2).trans rfl, (blk_cell BK540.out 3).trans rfl⟩ (fun hHeld => ?_)
      clear hK K
      refine norm_ (a' := ?_) ?_ ?_
      rotate_left
      ·show Act.put _ (some 44) _ = _
       simp only [Act.put, sA, sB, sC, i64_w, i32_w]
       rfl
      refine pure_ (i := 5) (N := some 45) (v := ?_) (a' := ?_) (bs 12 319) rfl rfl (any_of HT_.out (by kernel_rfl)) (fun _ _ _ h => h) (Or.inl ⟨by rfl, ?_⟩) ?_ ?_
      rotate_left
      ·intro w'
       go_simp
       with_reducible rfl
      rotate_left
      ·simp only [Act.put, sA, sB, sC, i64_w, i32_w]
       rfl
      refine pure_ (i := 6) (N := some 46) (v := ?_) (a' := ?_) (bs 12 383) rfl rfl (any_of HT_.out (by kernel_rfl)) (fun _ _ _ h => h) (Or.inl ⟨by rfl, ?_⟩) ?_ ?_
      rotate_left
      ·intro w'
       go_simp
       with_reducible rfl
      rotate_left
      ·simp only [Act.put, sA, sB, sC, i64_w, i32_w]
       rfl
      refine one_ (i := 7) (N := some 47) (bs 12 511) rfl rfl (one_of HT_.out (by kernel_rfl)) (by decide) (fun K hK => ?_)
      refine goes_ Try.func45 (by kernel_rfl) rfl #[.agg #[.int .i64 a2_0, .int .i64 a2_1, .int .i64 a2_2, .int .i64 a2_3], .int .i64 (wrap64 ((wrap64 (t548 + t549)) + 1))] (by rfl) rfl rfl (by (try simp only [List.map_toArray, List.map_cons, List.map_nil]); first | done | rfl | (simp only [List.length_drop, List.length_take]; rfl)) ?_
      with_reducible refine (imageeditorref02_Grow.calls kj8 a2_0 a2_1 a2_2 a2_3 (wrap64 ((wrap64 (t548 + t549)) + 1)) t550 t551 t552 t553 _ A51.out).mono ?_
      rintro e w55 ⟨rfl, hb⟩
      refine ⟨_, rfl, ?_⟩
      replace BK538 := zk BK538 hb
      replace BK539 := zk BK539 hb
      replace BK540 := zk BK540 hb
      replace BK541 := zk BK541 hb
      replace HB := zb HB hb
      (try clear hb)
      (try clear hb2)
      (try clear hk)
      (try clear hi)
      refine hK.out _ _ ⟨(blk_cell BK539.out 0).trans rfl, (blk_cell BK539.out 1).trans rfl, (blk_cell BK539.out 2).trans rfl, (blk_cell BK539.out 3).trans rfl, (blk_cell BK538.out 0).trans rfl, (blk_cell BK538.out 1).trans rfl, (blk_cell BK538.out 2).trans rfl, (blk_cell BK538.out 3).trans rfl, (blk_cell BK540.out 0).trans rfl, (blk_cell BK540.out 1).trans rfl, (blk_cell BK540.out 2).trans rfl, (blk_cell BK540.out 3).trans rfl⟩ (fun hHeld => ?_)
      clear hK K
      refine norm_ (a' := ?_) ?_ ?_
      rotate_left
      ·show Act.put _ (some 47) _ = _
       simp only [Act.put, sA, sB, sC, i64_w, i32_w]
       rfl
      refine one_ (i := 9) (N := some 49) (bs 12 1023) rfl rfl (one_of HT_.out (by kernel_rfl)) (by decide) (fun K hK => ?_)
      refine goes_ Try.func44 (by kernel_rfl) rfl #[.agg #[.int .i64 t550, .int .i64 t551, .int .i64 t552, .int .i64 t553], .agg #[.int .i64 a3_0, .int .i64 a3_1, .int .i64 a3_2, .int .i64 a3_3]] (by rfl) rfl rfl (by (try simp only [List.map_toArray, List.map_cons, List.map_nil]); first | done | rfl | (simp only [List.length_drop, List.length_take]; rfl)) ?_
      with_reducible refine (imageeditorref02_Meet.calls kj8 t550 t551 t552 t553 a3_0 a3_1 a3_2 a3_3 t554 t555 t556 t557 _ A52.out).mono ?_
      rintro e w56 ⟨rfl, hb⟩
      refine ⟨_, rfl, ?_⟩
      replace BK538 := zk BK538 hb
      replace BK539 := zk BK539 hb
      replace BK540 := zk BK540 hb
      replace BK541 := zk BK541 hb
      replace HB := zb HB hb
      (try clear hb)
      (try clear hb2)
      (try clear hk)
      (try clear hi)
      refine hK.out _ _ ⟨(blk_cell BK539.out 0).trans rfl, (blk_cell BK539.out 1).trans rfl, (blk_cell BK539.out 2).trans rfl, (blk_cell BK539.out 3).trans rfl, (blk_cell BK538.out 0).trans rfl, (blk_cell BK538.out 1).trans rfl, (blk_cell BK538.out 2).trans rfl, (blk_cell BK538.out 3).trans rfl, (blk_cell BK540.out 0).trans rfl, (blk_cell BK540.out 1).trans rfl, (blk_cell BK540.out 2).trans rfl, (blk_cell BK540.out 3).trans rfl⟩ (fun hHeld => ?_)
      clear hK K
      refine norm_ (a' := ?_) ?_ ?_
      rotate_left
      ·show Act.put _ (some 49) _ = _
       simp only [Act.put, sA, sB, sC, i64_w, i32_w]
       rfl
      refine one_ (i := 10) (N := none) (bs 12 2047) rfl rfl (one_of HT_.out (by kernel_rfl)) (by decide) (fun K hK => ?_)
      have hs57 : w56.cell? ⟨gb541, 0, none⟩ = some (.int .i64 0) := (blk_cell BK541.out 0).trans rfl
      have hfs57 := blk_frozen BK541.out 0
      have hns57_0 := NB538_541.out
      have hns57_1 := NB539_541.out
      have hns57_2 := NB540_541.out
      have hms57_0 := NB541_538.out
      have hms57_1 := NB541_539.out
      have hms57_2 := NB541_540.out
      have hs58 : w56.cell? ⟨gb541, 1, none⟩ = some (.int .i64 0) := (blk_cell BK541.out 1).trans rfl
      have hfs58 := blk_frozen BK541.out 1
      have hns58_0 := NB538_541.out
      have hns58_1 := NB539_541.out
      have hns58_2 := NB540_541.out
      have hms58_0 := NB541_538.out
      have hms58_1 := NB541_539.out
      have hms58_2 := NB541_540.out
      have hs59 : w56.cell? ⟨gb541, 2, none⟩ = some (.int .i64 0) := (blk_cell BK541.out 2).trans rfl
      have hfs59 := blk_frozen BK541.out 2
      have hns59_0 := NB538_541.out
      have hns59_1 := NB539_541.out
      have hns59_2 := NB540_541.out
      have hms59_0 := NB541_538.out
      have hms59_1 := NB541_539.out
      have hms59_2 := NB541_540.out
      have hs60 : w56.cell? ⟨gb541, 3, none⟩ = some (.int .i64 0) := (blk_cell BK541.out 3).trans rfl
      have hfs60 := blk_frozen BK541.out 3
      have hns60_0 := NB538_541.out
      have hns60_1 := NB539_541.out
      have hns60_2 := NB540_541.out
      have hms60_0 := NB541_538.out
      have hms60_1 := NB541_539.out
      have hms60_2 := NB541_540.out
      refine skip_ (w1 := ?_) (by rfl) rfl ?_ ?_
      rotate_left
      ·go_simp
       rfl
      refine hK.out _ _ ⟨((cell_far (p := ⟨gb541, _, none⟩) NB539_541.out _).trans (((cell_far (p := ⟨gb541, _, none⟩) NB539_541.out _).trans (((cell_far (p := ⟨gb541, _, none⟩) NB539_541.out _).trans (((cell_far (p := ⟨gb541, _, none⟩) NB539_541.out _).trans (hHeld.1)))))))), ((cell_far (p := ⟨gb541, _, none⟩) NB539_541.out _).trans (((cell_far (p := ⟨gb541, _, none⟩) NB539_541.out _).trans (((cell_far (p := ⟨gb541, _, none⟩) NB539_541.out _).trans (((cell_far (p := ⟨gb541, _, none⟩) NB539_541.out _).trans (hHeld.2.1)))))))), ((cell_far (p := ⟨gb541, _, none⟩) NB539_541.out _).trans (((cell_far (p := ⟨gb541, _, none⟩) NB539_541.out _).trans (((cell_far (p := ⟨gb541, _, none⟩) NB539_541.out _).trans (((cell_far (p := ⟨gb541, _, none⟩) NB539_541.out _).trans (hHeld.2.2.1)))))))), ((cell_far (p := ⟨gb541, _, none⟩) NB539_541.out _).trans (((cell_far (p := ⟨gb541, _, none⟩) NB539_541.out _).trans (((cell_far (p := ⟨gb541, _, none⟩) NB539_541.out _).trans (((cell_far (p := ⟨gb541, _, none⟩) NB539_541.out _).trans (hHeld.2.2.2.1)))))))), ((cell_far (p := ⟨gb541, _, none⟩) NB538_541.out _).trans (((cell_far (p := ⟨gb541, _, none⟩) NB538_541.out _).trans (((cell_far (p := ⟨gb541, _, none⟩) NB538_541.out _).trans (((cell_far (p := ⟨gb541, _, none⟩) NB538_541.out _).trans (hHeld.2.2.2.2.1)))))))), ((cell_far (p := ⟨gb541, _, none⟩) NB538_541.out _).trans (((cell_far (p := ⟨gb541, _, none⟩) NB538_541.out _).trans (((cell_far (p := ⟨gb541, _, none⟩) NB538_541.out _).trans (((cell_far (p := ⟨gb541, _, none⟩) NB538_541.out _).trans (hHeld.2.2.2.2.2.1)))))))), ((cell_far (p := ⟨gb541, _, none⟩) NB538_541.out _).trans (((cell_far (p := ⟨gb541, _, none⟩) NB538_541.out _).trans (((cell_far (p := ⟨gb541, _, none⟩) NB538_541.out _).trans (((cell_far (p := ⟨gb541, _, none⟩) NB538_541.out _).trans (hHeld.2.2.2.2.2.2.1)))))))), ((cell_far (p := ⟨gb541, _, none⟩) NB538_541.out _).trans (((cell_far (p := ⟨gb541, _, none⟩) NB538_541.out _).trans (((cell_far (p := ⟨gb541, _, none⟩) NB538_541.out _).trans (((cell_far (p := ⟨gb541, _, none⟩) NB538_541.out _).trans (hHeld.2.2.2.2.2.2.2.1)))))))), ((cell_far (p := ⟨gb541, _, none⟩) NB540_541.out _).trans (((cell_far (p := ⟨gb541, _, none⟩) NB540_541.out _).trans (((cell_far (p := ⟨gb541, _, none⟩) NB540_541.out _).trans (((cell_far (p := ⟨gb541, _, none⟩) NB540_541.out _).trans (hHeld.2.2.2.2.2.2.2.2.1)))))))), ((cell_far (p := ⟨gb541, _, none⟩) NB540_541.out _).trans (((cell_far (p := ⟨gb541, _, none⟩) NB540_541.out _).trans (((cell_far (p := ⟨gb541, _, none⟩) NB540_541.out _).trans (((cell_far (p := ⟨gb541, _, none⟩) NB540_541.out _).trans (hHeld.2.2.2.2.2.2.2.2.2.1)))))))), ((cell_far (p := ⟨gb541, _, none⟩) NB540_541.out _).trans (((cell_far (p := ⟨gb541, _, none⟩) NB540_541.out _).trans (((cell_far (p := ⟨gb541, _, none⟩) NB540_541.out _).trans (((cell_far (p := ⟨gb541, _, none⟩) NB540_541.out _).trans (hHeld.2.2.2.2.2.2.2.2.2.2.1)))))))), ((cell_far (p := ⟨gb541, _, none⟩) NB540_541.out _).trans (((cell_far (p := ⟨gb541, _, none⟩) NB540_541.out _).trans (((cell_far (p := ⟨gb541, _, none⟩) NB540_541.out _).trans (((cell_far (p := ⟨gb541, _, none⟩) NB540_541.out _).trans (hHeld.2.2.2.2.2.2.2.2.2.2.2))))))))⟩ (fun hHeld => ?_)
      clear hK K
      refine pure_ (i := 11) (N := some 9) (v := ?_) (a' := ?_) (bs 12 4095) rfl rfl (any_of HT_.out (by kernel_rfl)) (fun _ _ _ h => h) (Or.inl ⟨by rfl, ?_⟩) ?_ ?_
      rotate_left
      ·intro w'
       go_simp
       with_reducible rfl
      rotate_left
      ·simp only [Act.put, sA, sB, sC, i64_w, i32_w]
       rfl
      refine done_ (done_of HT_.out (by kernel_rfl)) ?_
      try go_wp2
      refine bodyPost_ret (results_ct rfl _ _ gb541 34 #[.int .i64 t554, .int .i64 t555, .int .i64 t556, .int .i64 t557] (0, 0) _ rfl (by exact zp BK541 rfl) Try.underlying34 rfl (by kernel_rfl)) rfl ?_
      exact ⟨by first | rfl | (simp [errW_none, errW_some] <;> rfl) | (simp [*, errW_none, errW_some] <;> rfl), by exact zbo HB GE541⟩
  ·replace c8 := Bool.eq_false_iff.mpr c8
   subst c8
   have H1 : (some (0, 0, 0, 0, 8)) = some (r1, r2, r3, r4, r5) := by rw [if_neg (show ¬ (false = true) by decide)] at H; exact H
   clear H
   have H := H1
   clear H1
   simp only [Option.some.injEq, Prod.mk.injEq] at H
   obtain ⟨rfl, rfl, rfl, rfl, rfl⟩ := H
   go_enter Try.func18, Try.ntmps18
   go_wp2_with (first | ((with_reducible refine gate_dst (N := 4) rfl ?_); refine box_event ?hg (N := 4) ?hd (cs := #[.int .i64 a0_0, .int .i64 a0_1, .int .i64 a0_2, .slice A0_3 l0_3.length c0_3]) (t := 24) ?hr ?_; (case hd => rfl); (case hg => rfl); (case hr => first | (go_simp; done) | (go_simp; rfl)); intro gb538 hg w61 hbox hb; have GW538 := zg HB hg; have GE538 := zg HB hg; have n0_ := Aside0.mk (hbox); replace HB := zb HB hb; have BK538 := n0_; clear n0_; clear hb hbox hg) | ((with_reducible refine gate_dst (N := 6) rfl ?_); refine box_event ?hg (N := 6) ?hd (cs := #[.int .i64 a2_0, .int .i64 a2_1, .int .i64 a2_2, .int .i64 a2_3]) (t := 34) ?hr ?_; (case hd => rfl); (case hg => rfl); (case hr => first | (go_simp; done) | (go_simp; rfl)); intro gb539 hg w62 hbox hb; have GW539 := zg HB hg; have GE539 := zg HB hg; have NB538_539 := zn BK538 hg; have NB539_538 := zn' BK538 hg; have n0_ := Aside0.mk (hbox); replace BK538 := zk BK538 hb; replace HB := zb HB hb; have BK539 := n0_; clear n0_; clear hb hbox hg) | ((with_reducible refine gate_dst (N := 7) rfl ?_); refine box_event ?hg (N := 7) ?hd (cs := #[.int .i64 a3_0, .int .i64 a3_1, .int .i64 a3_2, .int .i64 a3_3]) (t := 34) ?hr ?_; (case hd => rfl); (case hg => rfl); (case hr => first | (go_simp; done) | (go_simp; rfl)); intro gb540 hg w63 hbox hb; have GW540 := zg HB hg; have GE540 := zg HB hg; have NB538_540 := zn BK538 hg; have NB540_538 := zn' BK538 hg; have NB539_540 := zn BK539 hg; have NB540_539 := zn' BK539 hg; have n0_ := Aside0.mk (hbox); replace BK538 := zk BK538 hb; replace BK539 := zk BK539 hb; replace HB := zb HB hb; have BK540 := n0_; clear n0_; clear hb hbox hg) | ((with_reducible refine gate_dst (N := 8) rfl ?_); refine box_event ?hg (N := 8) ?hd (cs := #[.int .i64 0, .int .i64 0, .int .i64 0, .int .i64 0]) (t := 34) ?hr ?_; (case hd => rfl); (case hg => rfl); (case hr => first | (go_simp; done) | (go_simp; rfl)); intro gb541 hg w64 hbox hb; have GW541 := zg HB hg; have GE541 := zg HB hg; have NB538_541 := zn BK538 hg; have NB541_538 := zn' BK538 hg; have NB539_541 := zn BK539 hg; have NB541_539 := zn' BK539 hg; have NB540_541 := zn BK540 hg; have NB541_540 := zn' BK540 hg; have n0_ := Aside0.mk (hbox); replace BK538 := zk BK538 hb; replace BK539 := zk BK539 hb; replace BK540 := zk BK540 hb; replace HB := zb HB hb; have BK541 := n0_; clear n0_; clear hb hbox hg; have hnb65 := NB538_539.out; have hnc65 := NB539_538.out; have hnb66 := NB538_540.out; have hnc66 := NB540_538.out; have hnb67 := NB538_541.out; have hnc67 := NB541_538.out; obtain ⟨hcz68_0, hcz68_1, hcz68_2, hcz68_3, hfz68_0, hfz68_1, hfz68_2, hfz68_3⟩ := zq4 BK538) | ((with_reducible refine gate_callee (f := 11) rfl ?_); refine goesL_ (some 12) rfl rfl Try.func11 (by kernel_rfl) rfl #[.agg #[.int .i64 a0_0, .int .i64 a0_1, .int .i64 a0_2, .slice A0_3 l0_3.length c0_3]] rfl (by (try simp only [List.map_toArray, List.map_cons, List.map_nil]); first | done | rfl | (simp only [List.length_drop, List.length_take]; rfl)) ?_; (with_reducible refine (imageeditorref15_Check.calls k a0_0 a0_1 a0_2 _ _ l0_3 t542 _ ?side1 ?side2 A5.out).mono ?_); (case side1 => repeat (first | exact (Kd.C_below HR0_3.out HB.out) | (with_reducible refine Kd.C_alloc ?_ _) | (with_reducible refine Kd.C_drewN ?_ _) | (with_reducible refine Kd.C_drew ?_))); (case side2 => exact HC0_3.out); rintro e w69 ⟨rfl, hb⟩; refine ⟨_, rfl, ?_⟩; replace BK538 := zk BK538 hb; replace BK539 := zk BK539 hb; replace BK540 := zk BK540 hb; replace BK541 := zk BK541 hb; replace HB := zb HB hb; (try clear hb); (try clear hb2); (try clear hk); (try clear hi)) | ((with_reducible refine gate_callee (f := 40) rfl ?_); refine goesL_ (some 18) rfl rfl Try.func40 (by kernel_rfl) rfl #[.int .i64 a1] rfl (by (try simp only [List.map_toArray, List.map_cons, List.map_nil]); first | done | rfl | (simp only [List.length_drop, List.length_take]; rfl)) ?_; (with_reducible refine (imageeditorref13_Valid.calls a1 false _ A7.out).mono ?_); rintro e w' ⟨rfl, ⟨nd, rfl⟩⟩; refine ⟨_, rfl, ?_⟩; (try (rw [drewN_self w69]; generalize hq_ : World.drewN w69 _ = w69; have n0_ : Aside0 (w69.heap[gb538]? = some (.cells #[.int .i64 a0_0, .int .i64 a0_1, .int .i64 a0_2, .slice A0_3 l0_3.length c0_3] 24 (0, 0))) := ⟨by rw [← hq_]; exact (by exact zk0 BK538)⟩; have n1_ : Aside0 (w69.heap[gb539]? = some (.cells #[.int .i64 a2_0, .int .i64 a2_1, .int .i64 a2_2, .int .i64 a2_3] 34 (0, 0))) := ⟨by rw [← hq_]; exact (by exact zk0 BK539)⟩; have n2_ : Aside0 (w69.heap[gb540]? = some (.cells #[.int .i64 a3_0, .int .i64 a3_1, .int .i64 a3_2, .int .i64 a3_3] 34 (0, 0))) := ⟨by rw [← hq_]; exact (by exact zk0 BK540)⟩; have n3_ : Aside0 (w69.heap[gb541]? = some (.cells #[.int .i64 0, .int .i64 0, .int .i64 0, .int .i64 0] 34 (0, 0))) := ⟨by rw [← hq_]; exact (by exact zk0 BK541)⟩; have n4_ : Aside0 (Below w.heap.size w w69) := ⟨by rw [← hq_]; exact (by exact zb0 HB)⟩; clear BK538 BK539 BK540 BK541 HB hq_; have BK538 := n0_; have BK539 := n1_; have BK540 := n2_; have BK541 := n3_; have HB := n4_; clear n0_ n1_ n2_ n3_ n4_)); have hnb70 := NB541_539.out; have hnc70 := NB539_541.out; have hnb71 := NB541_540.out; have hnc71 := NB540_541.out; obtain ⟨hcz72_0, hcz72_1, hcz72_2, hcz72_3, hfz72_0, hfz72_1, hfz72_2, hfz72_3⟩ := zq4 BK541))
   refine bodyPost_ret (results_ct rfl _ _ gb541 34 #[.int .i64 0, .int .i64 0, .int .i64 0, .int .i64 0] (0, 0) _ rfl (by exact zp BK541 rfl) Try.underlying34 rfl (by kernel_rfl)) rfl ?_
   exact ⟨by first | rfl | (simp [errW_none, errW_some] <;> rfl) | (simp [*, errW_none, errW_some] <;> rfl), by exact zbo HB GE541⟩
 ·rw [if_neg c6] at H
  have c6b0 : (t542 == 0) = false := beq_eq_false_iff_ne.mpr c6
  have c6b1 : (t542 != 0) = true := bne_iff_ne.mpr c6
  simp only [Option.some.injEq, Prod.mk.injEq] at H
  obtain ⟨rfl, rfl, rfl, rfl, rfl⟩ := H
  go_enter Try.func18, Try.ntmps18
  go_wp2_with (first | ((with_reducible refine gate_dst (N := 4) rfl ?_); refine box_event ?hg (N := 4) ?hd (cs := #[.int .i64 a0_0, .int .i64 a0_1, .int .i64 a0_2, .slice A0_3 l0_3.length c0_3]) (t := 24) ?hr ?_; (case hd => rfl); (case hg => rfl); (case hr => first | (go_simp; done) | (go_simp; rfl)); intro gb538 hg w73 hbox hb; have GW538 := zg HB hg; have GE538 := zg HB hg; have n0_ := Aside0.mk (hbox); replace HB := zb HB hb; have BK538 := n0_; clear n0_; clear hb hbox hg) | ((with_reducible refine gate_dst (N := 6) rfl ?_); refine box_event ?hg (N := 6) ?hd (cs := #[.int .i64 a2_0, .int .i64 a2_1, .int .i64 a2_2, .int .i64 a2_3]) (t := 34) ?hr ?_; (case hd => rfl); (case hg => rfl); (case hr => first | (go_simp; done) | (go_simp; rfl)); intro gb539 hg w74 hbox hb; have GW539 := zg HB hg; have GE539 := zg HB hg; have NB538_539 := zn BK538 hg; have NB539_538 := zn' BK538 hg; have n0_ := Aside0.mk (hbox); replace BK538 := zk BK538 hb; replace HB := zb HB hb; have BK539 := n0_; clear n0_; clear hb hbox hg) | ((with_reducible refine gate_dst (N := 7) rfl ?_); refine box_event ?hg (N := 7) ?hd (cs := #[.int .i64 a3_0, .int .i64 a3_1, .int .i64 a3_2, .int .i64 a3_3]) (t := 34) ?hr ?_; (case hd => rfl); (case hg => rfl); (case hr => first | (go_simp; done) | (go_simp; rfl)); intro gb540 hg w75 hbox hb; have GW540 := zg HB hg; have GE540 := zg HB hg; have NB538_540 := zn BK538 hg; have NB540_538 := zn' BK538 hg; have NB539_540 := zn BK539 hg; have NB540_539 := zn' BK539 hg; have n0_ := Aside0.mk (hbox); replace BK538 := zk BK538 hb; replace BK539 := zk BK539 hb; replace HB := zb HB hb; have BK540 := n0_; clear n0_; clear hb hbox hg) | ((with_reducible refine gate_dst (N := 8) rfl ?_); refine box_event ?hg (N := 8) ?hd (cs := #[.int .i64 0, .int .i64 0, .int .i64 0, .int .i64 0]) (t := 34) ?hr ?_; (case hd => rfl); (case hg => rfl); (case hr => first | (go_simp; done) | (go_simp; rfl)); intro gb541 hg w76 hbox hb; have GW541 := zg HB hg; have GE541 := zg HB hg; have NB538_541 := zn BK538 hg; have NB541_538 := zn' BK538 hg; have NB539_541 := zn BK539 hg; have NB541_539 := zn' BK539 hg; have NB540_541 := zn BK540 hg; have NB541_540 := zn' BK540 hg; have n0_ := Aside0.mk (hbox); replace BK538 := zk BK538 hb; replace BK539 := zk BK539 hb; replace BK540 := zk BK540 hb; replace HB := zb HB hb; have BK541 := n0_; clear n0_; clear hb hbox hg; have hnb77 := NB538_539.out; have hnc77 := NB539_538.out; have hnb78 := NB538_540.out; have hnc78 := NB540_538.out; have hnb79 := NB538_541.out; have hnc79 := NB541_538.out; obtain ⟨hcz80_0, hcz80_1, hcz80_2, hcz80_3, hfz80_0, hfz80_1, hfz80_2, hfz80_3⟩ := zq4 BK538) | ((with_reducible refine gate_callee (f := 11) rfl ?_); refine goesL_ (some 12) rfl rfl Try.func11 (by kernel_rfl) rfl #[.agg #[.int .i64 a0_0, .int .i64 a0_1, .int .i64 a0_2, .slice A0_3 l0_3.length c0_3]] rfl (by (try simp only [List.map_toArray, List.map_cons, List.map_nil]); first | done | rfl | (simp only [List.length_drop, List.length_take]; rfl)) ?_; (with_reducible refine (imageeditorref15_Check.calls k a0_0 a0_1 a0_2 _ _ l0_3 t542 _ ?side1 ?side2 A5.out).mono ?_); (case side1 => repeat (first | exact (Kd.C_below HR0_3.out HB.out) | (with_reducible refine Kd.C_alloc ?_ _) | (with_reducible refine Kd.C_drewN ?_ _) | (with_reducible refine Kd.C_drew ?_))); (case side2 => exact HC0_3.out); rintro e w81 ⟨rfl, hb⟩; refine ⟨_, rfl, ?_⟩; replace BK538 := zk BK538 hb; replace BK539 := zk BK539 hb; replace BK540 := zk BK540 hb; replace BK541 := zk BK541 hb; replace HB := zb HB hb; (try clear hb); (try clear hb2); (try clear hk); (try clear hi); have hnb82 := NB541_539.out; have hnc82 := NB539_541.out; have hnb83 := NB541_540.out; have hnc83 := NB540_541.out; obtain ⟨hcz84_0, hcz84_1, hcz84_2, hcz84_3, hfz84_0, hfz84_1, hfz84_2, hfz84_3⟩ := zq4 BK541))
  refine bodyPost_ret (results_ct rfl _ _ gb541 34 #[.int .i64 0, .int .i64 0, .int .i64 0, .int .i64 0] (0, 0) _ rfl (by exact zp BK541 rfl) Try.underlying34 rfl (by kernel_rfl)) rfl ?_
  exact ⟨by first | rfl | (simp [errW_none, errW_some] <;> rfl) | (simp [*, errW_none, errW_some] <;> rfl), by exact zbo HB GE541⟩

end Go.Proofs.Ytnfbabmceddciaa.G
