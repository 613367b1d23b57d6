/- Contracts of functions of the program, each as it is called: what it computes (.f), that it computes no less with more rounds (.mono), and that a call returns just that (.calls). No conditions but those that each contract names. Written by a program of this session (wip/gx.py over the kit's print). -/
import Derived.Test.YtnfbabmceddciaaG0
namespace Go.Proofs.Ytnfbabmceddciaa.G
open Go.RowKit Go.Proofs.YtnfbabmceddciaaW.PrintWords Go.Proofs.YtnfbabmceddciaaW.PrintLast Go.Proofs.YtnfbabmceddciaaW.PrintMore
attribute [local go_sem] max2_int min2_int max_two min_two max_three min_three max_four min_four max_five min_five   -- for this text's walks alone
set_option linter.unusedVariables false
set_option linter.unusedSimpArgs false


/-! ### warp_Check_1: function 28 -/
def warp_Check_1.f (a0 : Int) : Option (Bool) := if a0 ≥ 2 then (some (decide (a0 ≤ 8))) else (some false)
set_option maxHeartbeats 8000000 in
set_option maxRecDepth 100000 in
theorem warp_Check_1.calls (a0 : Int) (r : Bool) (w : World) (h : warp_Check_1.f a0 = some r) :
  Calls Try.prog 28 #[.int .i64 a0] w fun e w' => e = .returned (.bool r) ∧ Drawn0 w w' := by
 have H : (if a0 ≥ 2 then (some (decide (a0 ≤ 8))) else (some false)) = some r := h
 clear h
 by_cases c2 : a0 ≥ 2
 ·rw [if_pos c2] at H
  have E0 : decide (2 ≤ a0) = true := decide_eq_true c2
  clear c2
  obtain rfl := Option.some.inj H
  go_enter Try.func28, Try.ntmps28
  go_wp2
  go_ret
  exact ⟨by first | rfl | (simp; done) | (simp [*]; done), by repeat (first | exact Drawn0.refl _ | apply Drawn0.step)⟩
 rw [if_neg c2] at H
 have E0 : decide (2 ≤ a0) = false := decide_eq_false c2
 clear c2
 obtain rfl := Option.some.inj H
 go_enter Try.func28, Try.ntmps28
 go_wp2
 go_ret
 exact ⟨by first | rfl | (simp; done) | (simp [*]; done), by repeat (first | exact Drawn0.refl _ | apply Drawn0.step)⟩

/-! ### warp_Check: function 10 -/
mutual
def warp_Check.j0 : Nat → Bool → Int → Int → Int → List (S28) → Option (Int)
 | 0, _, _, _, _, _ => none
 | k + 1, x38, L8, L9, Q0, G3 => if x38 = true then (some 15) else (warp_Check.l0 k G3 (G3.length : Int) 0)
def warp_Check.l0 : Nat → List (S28) → Int → Int → Option (Int)
 | 0, _, _, _ => none
 | k + 1, x40, x41, x42 => if x42 < x41 then (if 0 ≤ x42 then (if x42 < (x40.length : Int) then (if ((rd_T28 x40 x42).f0) < (-1048576) then (some 2) else (if ((rd_T28 x40 x42).f0) > 1048576 then (some 2) else (if ((rd_T28 x40 x42).f1) < (-1048576) then (some 2) else (if ((rd_T28 x40 x42).f1) > 1048576 then (some 2) else (warp_Check.l0 k x40 x41 (wrap64 (x42 + 1))))))) else (none)) else (none)) else (some 0)
end
def warp_Check.f (k : Nat) (a0_0 : Int) (a0_1 : Int) (a0_2 : Int) (l0_3 : List (S28)) : Option (Int) := (warp_Check_1.f a0_0).bind fun t102 => (if t102 = true then ((warp_Check_1.f a0_1).bind fun t103 => (if t103 = true then (if a0_2 < 1 then (warp_Check.j0 k true a0_0 a0_1 a0_2 l0_3) else (if a0_2 > 256 then (warp_Check.j0 k true a0_0 a0_1 a0_2 l0_3) else (warp_Check.j0 k ((l0_3.length : Int) != (wrap64 (a0_0 * a0_1))) a0_0 a0_1 a0_2 l0_3))) else (warp_Check.j0 k true a0_0 a0_1 a0_2 l0_3))) else (warp_Check.j0 k true a0_0 a0_1 a0_2 l0_3))
theorem warp_Check.mono_l : ∀ k, (∀ y0 y1 y2 y3 y4, LeO (warp_Check.j0 k y0 y1 y2 y3 y4) (warp_Check.j0 (k + 1) y0 y1 y2 y3 y4)) ∧ (∀ y0 y1 y2, LeO (warp_Check.l0 k y0 y1 y2) (warp_Check.l0 (k + 1) y0 y1 y2))
 | 0 => ⟨fun _ _ _ _ _ r h => by simp [warp_Check.j0] at h, fun _ _ _ r h => by simp [warp_Check.l0] at h⟩
 | k + 1 => by
  obtain ⟨ih0, ih1⟩ := warp_Check.mono_l k
  refine ⟨?_, ?_⟩
  ·intro y0 y1 y2 y3 y4
   unfold warp_Check.j0
   repeat' first
   | (with_reducible exact ih0 _ _ _ _ _)
   | (with_reducible exact ih1 _ _ _)
   | (with_reducible exact LeO.refl _)
   | (with_reducible exact LeO.none _)
   | (with_reducible refine LeO.ite ?_ ?_)
   | (with_reducible refine LeO.bind ?_ (fun _ => ?_))
   | exact ih0 _ _ _ _ _
   | exact ih1 _ _ _
   | exact LeO.none _
   | refine LeO.ite ?_ ?_
   | refine LeO.bind ?_ (fun _ => ?_)
  ·intro y0 y1 y2
   unfold warp_Check.l0
   repeat' first
   | (with_reducible exact ih0 _ _ _ _ _)
   | (with_reducible exact ih1 _ _ _)
   | (with_reducible exact LeO.refl _)
   | (with_reducible exact LeO.none _)
   | (with_reducible refine LeO.ite ?_ ?_)
   | (with_reducible refine LeO.bind ?_ (fun _ => ?_))
   | exact ih0 _ _ _ _ _
   | exact ih1 _ _ _
   | exact LeO.none _
   | refine LeO.ite ?_ ?_
   | refine LeO.bind ?_ (fun _ => ?_)
theorem warp_Check.mono : ∀ a0 a1 a2 a3 k, LeO (warp_Check.f k a0 a1 a2 a3) (warp_Check.f (k + 1) a0 a1 a2 a3) := by
 intro a0 a1 a2 a3 k
 obtain ⟨ih0, ih1⟩ := warp_Check.mono_l k
 unfold warp_Check.f
 repeat' first
   | (with_reducible exact ih0 _ _ _ _ _)
   | (with_reducible exact ih1 _ _ _)
   | (with_reducible exact LeO.refl _)
   | (with_reducible exact LeO.none _)
   | (with_reducible refine LeO.ite ?_ ?_)
   | (with_reducible refine LeO.bind ?_ (fun _ => ?_))
   | exact ih0 _ _ _ _ _
   | exact ih1 _ _ _
   | exact LeO.none _
   | refine LeO.ite ?_ ?_
   | refine LeO.bind ?_ (fun _ => ?_)
set_option maxHeartbeats 8000000 in
set_option maxRecDepth 100000 in
theorem warp_Check.calls (k : Nat) (a0_0 : Int) (a0_1 : Int) (a0_2 : Int) (A0_3 : Option Addr) (c0_3 : Nat) (l0_3 : List (S28)) (r : Int) (w : World) (hr0_3 : Kd.C k28 w A0_3 l0_3.length l0_3) (hc0_3 : l0_3.length ≤ c0_3) (h : warp_Check.f k a0_0 a0_1 a0_2 l0_3 = some r) :
  Calls Try.prog 10 #[.agg #[.int .i64 a0_0, .int .i64 a0_1, .int .i64 a0_2, .slice A0_3 l0_3.length c0_3]] w fun e w' => e = .returned (.int .i64 r) ∧ Below w.heap.size w w' := by
 have hu24 := Try.underlying24
 have hu28 := Try.underlying28
 have E8 := Aside0.mk hr0_3
 have Q1 := Aside0.mk hc0_3
 clear hr0_3 hc0_3
 have HB := Aside0.mk (Below.refl w.heap.size w)
 have H : ((warp_Check_1.f a0_0).bind fun t102 => (if t102 = true then ((warp_Check_1.f a0_1).bind fun t103 => (if t103 = true then (if a0_2 < 1 then (warp_Check.j0 k true a0_0 a0_1 a0_2 l0_3) else (if a0_2 > 256 then (warp_Check.j0 k true a0_0 a0_1 a0_2 l0_3) else (warp_Check.j0 k ((l0_3.length : Int) != (wrap64 (a0_0 * a0_1))) a0_0 a0_1 a0_2 l0_3))) else (warp_Check.j0 k true a0_0 a0_1 a0_2 l0_3))) else (warp_Check.j0 k true a0_0 a0_1 a0_2 l0_3))) = some r := h
 clear h
 have HC2 := Aside0.mk H
 clear H
 go_enter Try.func10, Try.ntmps10
 go_upto_region 2 with (first | ((with_reducible refine gate_dst (N := 1) rfl ?_); (try (refine gate_guard (by rfl) ?_; dsimp only)); refine box_event ?hg (N := 1) ?hd (cs := #[.int .i64 a0_0, .int .i64 a0_1, .int .i64 a0_2, .slice A0_3 l0_3.length c0_3]) (t := 24) ?hr ?_; (case hd => rfl); (case hg => rfl); (case hr => first | (go_simp; done) | (go_simp; rfl)); intro G4 hg w3 hbox hb; have Q2 := zg HB hg; have Q3 := zg HB hg; have n0_ := Aside0.mk (hbox); replace HB := zb HB hb; have E0 := n0_; clear n0_; clear hb hbox hg))
 (try simp only [Act.put, sA, sB, sC])
 go_cut [38] (fun v38 wc => ∃ (kq : Nat) (x38_1 : Bool), v38 = .bool x38_1 ∧ Aside0 (warp_Check.j0 kq x38_1 a0_0 a0_1 a0_2 l0_3 = some r) ∧ Aside0 (kq ≤ k) ∧ Aside0 (wc.heap[G4]? = some (.cells #[.int .i64 a0_0, .int .i64 a0_1, .int .i64 a0_2, (.slice A0_3 l0_3.length c0_3)] 24 (0, 0))) ∧ Aside0 (Below w.heap.size w wc))
 case first =>
  have H := HC2.out
  clear HC2
  replace H := Option.bind_eq_some_iff.mp H
  obtain ⟨t102, A40, H⟩ := H
  try dsimp only at H
  have A4 := Aside0.mk A40
  clear A40
  by_cases c5 : t102 = true
  rotate_left
  ·replace c5 := Bool.eq_false_iff.mpr c5
   subst c5
   rw [if_neg (show ¬ (false = true) by decide)] at H
   have H' := Aside0.mk H
   clear H
   obtain ⟨G5, G6, G7, G8, G9, V0, V1, V2⟩ := zq4 E0
   go_wp2_with (first | ((with_reducible refine gate_calleeT (t := 6) rfl ?_); refine goesLT_ (some 9) rfl rfl Try.func28 (by kernel_rfl) rfl #[] #[.int .i64 a0_0] rfl (by first | rfl | (go_simp; done) | (go_simp; rfl)) (by (try simp only [List.map_toArray, List.map_cons, List.map_nil]); first | done | rfl | (go_simp; done) | (go_simp; rfl)) ?_; (with_reducible refine (warp_Check_1.calls a0_0 false _ A4.out).mono ?_); rintro e w' ⟨rfl, ⟨nd, rfl⟩⟩; refine ⟨_, rfl, ?_⟩))
   go_meet
   case rel => exact ⟨_, (true), (by first | rfl | (simp; done) | (simp [*]; done)), H', ⟨by first | omega | exact Nat.le_refl _⟩, ⟨by exact zk0 E0⟩, ⟨by exact zb0 HB⟩⟩
  subst c5
  rw [if_pos rfl] at H
  replace H := Option.bind_eq_some_iff.mp H
  obtain ⟨t103, A60, H⟩ := H
  try dsimp only at H
  have A6 := Aside0.mk A60
  clear A60
  by_cases c7 : t103 = true
  rotate_left
  ·replace c7 := Bool.eq_false_iff.mpr c7
   subst c7
   rw [if_neg (show ¬ (false = true) by decide)] at H
   have H' := Aside0.mk H
   clear H
   obtain ⟨V3, V4, V5, V6, V7, V8, V9, Y0⟩ := zq4 E0
   go_wp2_with (first | ((with_reducible refine gate_calleeT (t := 6) rfl ?_); refine goesLT_ (some 9) rfl rfl Try.func28 (by kernel_rfl) rfl #[] #[.int .i64 a0_0] rfl (by first | rfl | (go_simp; done) | (go_simp; rfl)) (by (try simp only [List.map_toArray, List.map_cons, List.map_nil]); first | done | rfl | (go_simp; done) | (go_simp; rfl)) ?_; (with_reducible refine (warp_Check_1.calls a0_0 true _ A4.out).mono ?_); rintro e w' ⟨rfl, ⟨nd, rfl⟩⟩; refine ⟨_, rfl, ?_⟩) | (go_at_call 28; (with_reducible refine (warp_Check_1.calls a0_1 false _ A6.out).mono ?_); rintro e w' ⟨rfl, ⟨nd, rfl⟩⟩))
   go_meet
   case rel => exact ⟨_, (true), (by first | rfl | (simp; done) | (simp [*]; done)), H', ⟨by first | omega | exact Nat.le_refl _⟩, ⟨by exact zk0 E0⟩, ⟨by exact zb0 HB⟩⟩
  subst c7
  rw [if_pos rfl] at H
  by_cases c8 : a0_2 < 1
  ·rw [if_pos c8] at H
   have E7 : decide (a0_2 < 1) = true := decide_eq_true c8
   clear c8
   (first | rw [E7] | (simp only [i64_w, i32_w]; rw [E7]) | skip)
   have H' := Aside0.mk H
   clear H
   obtain ⟨Y1, Y2, Y3, Y4, Y5, Y6, Y7, Y8⟩ := zq4 E0
   go_wp2_with (first | ((with_reducible refine gate_calleeT (t := 6) rfl ?_); refine goesLT_ (some 9) rfl rfl Try.func28 (by kernel_rfl) rfl #[] #[.int .i64 a0_0] rfl (by first | rfl | (go_simp; done) | (go_simp; rfl)) (by (try simp only [List.map_toArray, List.map_cons, List.map_nil]); first | done | rfl | (go_simp; done) | (go_simp; rfl)) ?_; (with_reducible refine (warp_Check_1.calls a0_0 true _ A4.out).mono ?_); rintro e w' ⟨rfl, ⟨nd, rfl⟩⟩; refine ⟨_, rfl, ?_⟩) | (go_at_call 28; (with_reducible refine (warp_Check_1.calls a0_1 true _ A6.out).mono ?_); rintro e w' ⟨rfl, ⟨nd, rfl⟩⟩))
   go_meet
   case rel => exact ⟨_, (true), (by first | rfl | (simp; done) | (simp [*]; done)), H', ⟨by first | omega | exact Nat.le_refl _⟩, ⟨by exact zk0 E0⟩, ⟨by exact zb0 HB⟩⟩
  rw [if_neg c8] at H
  have E7 : decide (a0_2 < 1) = false := decide_eq_false c8
  clear c8
  (first | rw [E7] | (simp only [i64_w, i32_w]; rw [E7]) | skip)
  by_cases c10 : a0_2 > 256
  ·rw [if_pos c10] at H
   have G2 : decide (256 < a0_2) = true := decide_eq_true c10
   clear c10
   have H' := Aside0.mk H
   clear H
   obtain ⟨Y9, Z0, Z1, Z2, Z3, Z4, Z5, Z6⟩ := zq4 E0
   go_wp2_with (first | ((with_reducible refine gate_calleeT (t := 6) rfl ?_); refine goesLT_ (some 9) rfl rfl Try.func28 (by kernel_rfl) rfl #[] #[.int .i64 a0_0] rfl (by first | rfl | (go_simp; done) | (go_simp; rfl)) (by (try simp only [List.map_toArray, List.map_cons, List.map_nil]); first | done | rfl | (go_simp; done) | (go_simp; rfl)) ?_; (with_reducible refine (warp_Check_1.calls a0_0 true _ A4.out).mono ?_); rintro e w' ⟨rfl, ⟨nd, rfl⟩⟩; refine ⟨_, rfl, ?_⟩) | (go_at_call 28; (with_reducible refine (warp_Check_1.calls a0_1 true _ A6.out).mono ?_); rintro e w' ⟨rfl, ⟨nd, rfl⟩⟩))
   go_meet
   case rel => exact ⟨_, (true), (by first | rfl | (simp; done) | (simp [*]; done)), H', ⟨by first | omega | exact Nat.le_refl _⟩, ⟨by exact zk0 E0⟩, ⟨by exact zb0 HB⟩⟩
  rw [if_neg c10] at H
  have G2 : decide (256 < a0_2) = false := decide_eq_false c10
  clear c10
  have H' := Aside0.mk H
  clear H
  obtain ⟨Z7, Z8, Z9, J0, J1, J2, J3, J4⟩ := zq4 E0
  go_wp2_with (first | ((with_reducible refine gate_calleeT (t := 6) rfl ?_); refine goesLT_ (some 9) rfl rfl Try.func28 (by kernel_rfl) rfl #[] #[.int .i64 a0_0] rfl (by first | rfl | (go_simp; done) | (go_simp; rfl)) (by (try simp only [List.map_toArray, List.map_cons, List.map_nil]); first | done | rfl | (go_simp; done) | (go_simp; rfl)) ?_; (with_reducible refine (warp_Check_1.calls a0_0 true _ A4.out).mono ?_); rintro e w' ⟨rfl, ⟨nd, rfl⟩⟩; refine ⟨_, rfl, ?_⟩) | (go_at_call 28; (with_reducible refine (warp_Check_1.calls a0_1 true _ A6.out).mono ?_); rintro e w' ⟨rfl, ⟨nd, rfl⟩⟩))
  go_meet
  case rel => exact ⟨_, (((l0_3.length : Int) != (wrap64 (a0_0 * a0_1)))), (by first | rfl | (simp; done) | (simp [*]; done)), H', ⟨by first | omega | exact Nat.le_refl _⟩, ⟨by exact zk0 E0⟩, ⟨by exact zb0 HB⟩⟩
 case rest =>
  clear HC2
  try clear c1
  try clear c2
  try clear p2
  try clear q4
  try clear c5
  try clear p6
  try clear c7
  try clear c8
  try clear E7
  try clear c10
  try clear G2
  try clear Y9
  try clear Z0
  try clear Z1
  try clear Z2
  try clear Z7
  try clear Z8
  try clear Z9
  try clear J0
  try clear V3
  try clear V4
  try clear V5
  try clear V6
  try clear G5
  try clear G6
  try clear G7
  try clear G8
  try clear Y1
  try clear Y2
  try clear Y3
  try clear Y4
  try clear Z3
  try clear Z4
  try clear Z5
  try clear Z6
  try clear J1
  try clear J2
  try clear J3
  try clear J4
  try clear V7
  try clear V8
  try clear V9
  try clear Y0
  try clear G9
  try clear V0
  try clear V1
  try clear V2
  try clear Y5
  try clear Y6
  try clear Y7
  try clear Y8
  obtain ⟨kq, x38_1, rfl, HA, HJ1, E0, HB⟩ := hcut
  cases kq with
  | zero => exact absurd HA.out (by simp [warp_Check.j0])
  | succ kj1 =>
   have H := HA.out
   clear HA
   simp only [warp_Check.j0] at H
   by_cases c15 : x38_1 = true
   ·subst c15
    rw [if_pos rfl] at H
    obtain rfl := Option.some.inj H
    go_wp2
    go_ret
    exact ⟨by first | rfl | (simp [errW_none, errW_some] <;> rfl) | (simp [*, errW_none, errW_some] <;> rfl), by exact zb0 HB⟩
   replace c15 := Bool.eq_false_iff.mpr c15
   subst c15
   rw [if_neg (show ¬ (false = true) by decide)] at H
   have H' := Aside0.mk H
   clear H
   obtain ⟨J5, J6, J7, J8, J9, L0, L1, L2⟩ := zq4 E0
   go_wp2
   go_loopg [42] kj1 (fun kq v42 w' => ∃ (x42_2 : Int), v42 = .int .i64 x42_2 ∧ Aside0 (warp_Check.l0 kq l0_3 (l0_3.length : Int) x42_2 = some r) ∧ Aside0 (kq ≤ kj1) ∧ Aside0 (w'.heap[G4]? = some (.cells #[.int .i64 a0_0, .int .i64 a0_1, .int .i64 a0_2, (.slice A0_3 l0_3.length c0_3)] 24 (0, 0))) ∧ Aside0 (Below w.heap.size w w'))
   case atStart => exact ⟨(0), (by first | rfl | (simp; done) | (simp [*]; done)), H', ⟨Nat.le_refl _⟩, ⟨by exact zk0 E0⟩, ⟨by exact zb0 HB⟩⟩
   case round =>
    clear H'
    try clear c1
    try clear c2
    try clear p2
    try clear q4
    try clear c5
    try clear p6
    try clear c7
    try clear c8
    try clear E7
    try clear c10
    try clear G2
    try clear c15
    try clear Y9
    try clear Z0
    try clear Z1
    try clear Z2
    try clear Z7
    try clear Z8
    try clear Z9
    try clear J0
    try clear V3
    try clear V4
    try clear V5
    try clear V6
    try clear G5
    try clear G6
    try clear G7
    try clear G8
    try clear J5
    try clear J6
    try clear J7
    try clear J8
    try clear Y1
    try clear Y2
    try clear Y3
    try clear Y4
    try clear Z3
    try clear Z4
    try clear Z5
    try clear Z6
    try clear J1
    try clear J2
    try clear J3
    try clear J4
    try clear V7
    try clear V8
    try clear V9
    try clear Y0
    try clear G9
    try clear V0
    try clear V1
    try clear V2
    try clear J9
    try clear L0
    try clear L1
    try clear L2
    try clear Y5
    try clear Y6
    try clear Y7
    try clear Y8
    try clear p2
    try clear p6
    try clear q4
    obtain ⟨x42_2, rfl, HA, HK2, E0, HB⟩ := hrel
    cases gk with
    | zero => exact absurd HA.out (by simp [warp_Check.l0])
    | succ k2 =>
     have H := HA.out
     clear HA
     simp only [warp_Check.l0] at H
     by_cases c17 : x42_2 < (l0_3.length : Int)
     rotate_left
     ·rw [if_neg c17] at H
      have L3 : decide (x42_2 < (l0_3.length : Int)) = false := decide_eq_false c17
      clear c17
      obtain rfl := Option.some.inj H
      go_wp2
      go_ret
      exact ⟨by first | rfl | (simp [errW_none, errW_some] <;> rfl) | (simp [*, errW_none, errW_some] <;> rfl), by exact zb0 HB⟩

     rw [if_pos c17] at H
     have L3 : decide (x42_2 < (l0_3.length : Int)) = true := decide_eq_true c17
     clear c17
     by_cases c18 : 0 ≤ x42_2
     rotate_left
     ·rw [if_neg c18] at H
      exact absurd H (by simp)
     rw [if_pos c18] at H
     have Q4 : decide (0 ≤ x42_2) = true := decide_eq_true c18
     clear c18
     by_cases c19 : x42_2 < (l0_3.length : Int)
     rotate_left
     ·rw [if_neg c19] at H
      exact absurd H (by simp)
     rw [if_pos c19] at H
     have Q5 : decide (x42_2 < (l0_3.length : Int)) = true := decide_eq_true c19
     clear c19
     by_cases c20 : ((rd_T28 l0_3 x42_2).f0) < (-1048576)
     ·rw [if_pos c20] at H
      have L4 : decide (((rd_T28 l0_3 x42_2).f0) < (-1048576)) = true := decide_eq_true c20
      clear c20
      obtain rfl := Option.some.inj H
      have p104 : 0 ≤ (x42_2 : Int) := of_decide_eq_true (by first | (with_reducible assumption) | assumption)
      have q104 : x42_2 < (l0_3.length : Int) := of_decide_eq_true (by first | (with_reducible assumption) | assumption)
      obtain ⟨E9, e104, E1, E2⟩ := at_T28 E8.out x42_2 p104 q104
      cases e104
      replace E1 := (HB.out.cell (World.block_lt_of_cell? w _ E1)).trans E1
      replace E2 := (HB.out.cell (World.block_lt_of_cell? w _ E2)).trans E2
      replace p104 := eq_true p104
      replace q104 := eq_true q104
      go_wp2_with (first | ((with_reducible refine gate_dst (N := 5) rfl ?_); (try (refine gate_guard (by rfl) ?_; dsimp only)); refine box_event ?hg (N := 5) ?hd (cs := #[.int .i64 0, .int .i64 0]) (t := 28) ?hr ?_; (case hd => rfl); (case hg => rfl); (case hr => first | (go_simp; done) | (go_simp; rfl)); intro G0 hg w21 hbox hb; have G1 := zg HB hg; have E4 := zg HB hg; have E3 := zn E0 hg; have E5 := zn' E0 hg; have n0_ := Aside0.mk (hbox); replace E0 := zk E0 hb; replace HB := zb HB hb; have E6 := n0_; clear n0_; clear hb hbox hg; have Q6 := E5.out; have Q7 := E3.out; obtain ⟨Q8, Q9, E0a, E0b⟩ := zq2 E6))
      go_ret
      exact ⟨by first | rfl | (simp [errW_none, errW_some] <;> rfl) | (simp [*, errW_none, errW_some] <;> rfl), by exact zbo HB E4⟩
     rw [if_neg c20] at H
     have L4 : decide (((rd_T28 l0_3 x42_2).f0) < (-1048576)) = false := decide_eq_false c20
     clear c20
     by_cases c24 : ((rd_T28 l0_3 x42_2).f0) > 1048576
     ·rw [if_pos c24] at H
      have L5 : decide (1048576 < ((rd_T28 l0_3 x42_2).f0)) = true := decide_eq_true c24
      clear c24
      obtain rfl := Option.some.inj H
      have p104 : 0 ≤ (x42_2 : Int) := of_decide_eq_true (by first | (with_reducible assumption) | assumption)
      have q104 : x42_2 < (l0_3.length : Int) := of_decide_eq_true (by first | (with_reducible assumption) | assumption)
      obtain ⟨E9, e104, E1, E2⟩ := at_T28 E8.out x42_2 p104 q104
      cases e104
      replace E1 := (HB.out.cell (World.block_lt_of_cell? w _ E1)).trans E1
      replace E2 := (HB.out.cell (World.block_lt_of_cell? w _ E2)).trans E2
      replace p104 := eq_true p104
      replace q104 := eq_true q104
      go_wp2_with (first | ((with_reducible refine gate_dst (N := 5) rfl ?_); (try (refine gate_guard (by rfl) ?_; dsimp only)); refine box_event ?hg (N := 5) ?hd (cs := #[.int .i64 0, .int .i64 0]) (t := 28) ?hr ?_; (case hd => rfl); (case hg => rfl); (case hr => first | (go_simp; done) | (go_simp; rfl)); intro G0 hg w25 hbox hb; have G1 := zg HB hg; have E4 := zg HB hg; have E3 := zn E0 hg; have E5 := zn' E0 hg; have n0_ := Aside0.mk (hbox); replace E0 := zk E0 hb; replace HB := zb HB hb; have E6 := n0_; clear n0_; clear hb hbox hg; have E0c := E5.out; have E0d := E3.out; obtain ⟨E0e, E0f, E0g, E0h⟩ := zq2 E6))
      go_ret
      exact ⟨by first | rfl | (simp [errW_none, errW_some] <;> rfl) | (simp [*, errW_none, errW_some] <;> rfl), by exact zbo HB E4⟩
     rw [if_neg c24] at H
     have L5 : decide (1048576 < ((rd_T28 l0_3 x42_2).f0)) = false := decide_eq_false c24
     clear c24
     by_cases c28 : ((rd_T28 l0_3 x42_2).f1) < (-1048576)
     ·rw [if_pos c28] at H
      have L6 : decide (((rd_T28 l0_3 x42_2).f1) < (-1048576)) = true := decide_eq_true c28
      clear c28
      obtain rfl := Option.some.inj H
      have p104 : 0 ≤ (x42_2 : Int) := of_decide_eq_true (by first | (with_reducible assumption) | assumption)
      have q104 : x42_2 < (l0_3.length : Int) := of_decide_eq_true (by first | (with_reducible assumption) | assumption)
      obtain ⟨E9, e104, E1, E2⟩ := at_T28 E8.out x42_2 p104 q104
      cases e104
      replace E1 := (HB.out.cell (World.block_lt_of_cell? w _ E1)).trans E1
      replace E2 := (HB.out.cell (World.block_lt_of_cell? w _ E2)).trans E2
      replace p104 := eq_true p104
      replace q104 := eq_true q104
      go_wp2_with (first | ((with_reducible refine gate_dst (N := 5) rfl ?_); (try (refine gate_guard (by rfl) ?_; dsimp only)); refine box_event ?hg (N := 5) ?hd (cs := #[.int .i64 0, .int .i64 0]) (t := 28) ?hr ?_; (case hd => rfl); (case hg => rfl); (case hr => first | (go_simp; done) | (go_simp; rfl)); intro G0 hg w29 hbox hb; have G1 := zg HB hg; have E4 := zg HB hg; have E3 := zn E0 hg; have E5 := zn' E0 hg; have n0_ := Aside0.mk (hbox); replace E0 := zk E0 hb; replace HB := zb HB hb; have E6 := n0_; clear n0_; clear hb hbox hg; have E0i := E5.out; have E0j := E3.out; obtain ⟨E0k, E0l, E0m, E0n⟩ := zq2 E6))
      go_ret
      exact ⟨by first | rfl | (simp [errW_none, errW_some] <;> rfl) | (simp [*, errW_none, errW_some] <;> rfl), by exact zbo HB E4⟩
     rw [if_neg c28] at H
     have L6 : decide (((rd_T28 l0_3 x42_2).f1) < (-1048576)) = false := decide_eq_false c28
     clear c28
     by_cases c32 : ((rd_T28 l0_3 x42_2).f1) > 1048576
     ·rw [if_pos c32] at H
      have L7 : decide (1048576 < ((rd_T28 l0_3 x42_2).f1)) = true := decide_eq_true c32
      clear c32
      obtain rfl := Option.some.inj H
      have p104 : 0 ≤ (x42_2 : Int) := of_decide_eq_true (by first | (with_reducible assumption) | assumption)
      have q104 : x42_2 < (l0_3.length : Int) := of_decide_eq_true (by first | (with_reducible assumption) | assumption)
      obtain ⟨E9, e104, E1, E2⟩ := at_T28 E8.out x42_2 p104 q104
      cases e104
      replace E1 := (HB.out.cell (World.block_lt_of_cell? w _ E1)).trans E1
      replace E2 := (HB.out.cell (World.block_lt_of_cell? w _ E2)).trans E2
      replace p104 := eq_true p104
      replace q104 := eq_true q104
      go_wp2_with (first | ((with_reducible refine gate_dst (N := 5) rfl ?_); (try (refine gate_guard (by rfl) ?_; dsimp only)); refine box_event ?hg (N := 5) ?hd (cs := #[.int .i64 0, .int .i64 0]) (t := 28) ?hr ?_; (case hd => rfl); (case hg => rfl); (case hr => first | (go_simp; done) | (go_simp; rfl)); intro G0 hg w33 hbox hb; have G1 := zg HB hg; have E4 := zg HB hg; have E3 := zn E0 hg; have E5 := zn' E0 hg; have n0_ := Aside0.mk (hbox); replace E0 := zk E0 hb; replace HB := zb HB hb; have E6 := n0_; clear n0_; clear hb hbox hg; have E0o := E5.out; have E0p := E3.out; obtain ⟨E0q, E0r, E0s, E0t⟩ := zq2 E6))
      go_ret
      exact ⟨by first | rfl | (simp [errW_none, errW_some] <;> rfl) | (simp [*, errW_none, errW_some] <;> rfl), by exact zbo HB E4⟩
     rw [if_neg c32] at H
     have L7 : decide (1048576 < ((rd_T28 l0_3 x42_2).f1)) = false := decide_eq_false c32
     clear c32
     have H' := Aside0.mk H
     clear H
     have p104 : 0 ≤ (x42_2 : Int) := of_decide_eq_true (by first | (with_reducible assumption) | assumption)
     have q104 : x42_2 < (l0_3.length : Int) := of_decide_eq_true (by first | (with_reducible assumption) | assumption)
     obtain ⟨E9, e104, E1, E2⟩ := at_T28 E8.out x42_2 p104 q104
     cases e104
     replace E1 := (HB.out.cell (World.block_lt_of_cell? w _ E1)).trans E1
     replace E2 := (HB.out.cell (World.block_lt_of_cell? w _ E2)).trans E2
     replace p104 := eq_true p104
     replace q104 := eq_true q104
     go_wp2_with (first | ((with_reducible refine gate_dst (N := 5) rfl ?_); (try (refine gate_guard (by rfl) ?_; dsimp only)); refine box_event ?hg (N := 5) ?hd (cs := #[.int .i64 0, .int .i64 0]) (t := 28) ?hr ?_; (case hd => rfl); (case hg => rfl); (case hr => first | (go_simp; done) | (go_simp; rfl)); intro G0 hg w36 hbox hb; have G1 := zg HB hg; have E4 := zg HB hg; have E3 := zn E0 hg; have E5 := zn' E0 hg; have n0_ := Aside0.mk (hbox); replace E0 := zk E0 hb; replace HB := zb HB hb; have E6 := n0_; clear n0_; clear hb hbox hg; have E0u := E5.out; have E0v := E3.out; obtain ⟨E0w, E0x, E0y, E0z⟩ := zq2 E6))
     go_roundg k2
     case measure => have := HJ1.out; have := HK2.out; omega
     case rel => exact ⟨(wrap64 (x42_2 + 1)), (by first | rfl | (simp; done) | (simp [*]; done)), H', ⟨by have := HJ1.out; have := HK2.out; omega⟩, ⟨by exact zf E0 E3⟩, ⟨by exact zbo HB E4⟩⟩
/-! ### num_Clamp: function 49 -/
def num_Clamp.f (a0 : Int) (a1 : Int) (a2 : Int) : Option (Int) := some (mn a2 (mx a0 a1))
set_option maxHeartbeats 8000000 in
set_option maxRecDepth 100000 in
theorem num_Clamp.calls (a0 : Int) (a1 : Int) (a2 : Int) (r : Int) (w : World) (h : num_Clamp.f a0 a1 a2 = some r) :
  Calls Try.prog 49 #[.int .i64 a0, .int .i64 a1, .int .i64 a2] w fun e w' => e = .returned (.int .i64 r) ∧ Below w.heap.size w w' := by
 have HB := Aside0.mk (Below.refl w.heap.size w)
 have H : (some (mn a2 (mx a0 a1))) = some r := h
 clear h
 obtain ⟨E0, E1⟩ : ∃ j_ : Int, (mx a0 a1) = j_ := ⟨_, rfl⟩
 replace H : (some (mn a2 (E0))) = some r := by first | (rw [E1] at H; exact H) | (simp only [E1] at H ⊢; exact H)
 have hji4_ : (if a0 < a1 then a1 else a0) = E0 := E1
 obtain ⟨E3, E2⟩ : ∃ j_ : Int, (mn a2 (E0)) = j_ := ⟨_, rfl⟩
 replace H : (some E3) = some r := by first | (rw [E2] at H; exact H) | (simp only [E2] at H ⊢; exact H)
 have hji5_ : (if (E0) < a2 then (E0) else a2) = E3 := E2
 obtain rfl := Option.some.inj H
 go_enter Try.func49, Try.ntmps49
 go_wp2
 go_ret
 exact ⟨by first | rfl | (simp [errW_none, errW_some] <;> rfl) | (simp only [← E1, ← E2]; first | rfl | (simp [errW_none, errW_some] <;> rfl)) | (simp [*, errW_none, errW_some] <;> rfl), by exact zb0 HB⟩

/-! ### warp_cell: function 65 -/
def warp_cell.f (a0 : Int) (a1 : Int) (a2 : Int) : Option (Int × Int) := (num_Clamp.f a0 0 (wrap64 ((wrap64 (a1 - 1)) * a2))).bind fun t111 => (if a2 = 0 then (none) else (some (mn (wrap64 (Int.tdiv t111 a2)) (wrap64 (a1 - 2)), wrap64 (t111 - (wrap64 ((mn (wrap64 (Int.tdiv t111 a2)) (wrap64 (a1 - 2))) * a2))))))
set_option maxHeartbeats 8000000 in
set_option maxRecDepth 100000 in
theorem warp_cell.calls (a0 : Int) (a1 : Int) (a2 : Int) (r1 : Int) (r2 : Int) (w : World) (h : warp_cell.f a0 a1 a2 = some (r1, r2)) :
  Calls Try.prog 65 #[.int .i64 a0, .int .i64 a1, .int .i64 a2] w fun e w' => e = .returned (.tuple #[.int .i64 r1, .int .i64 r2]) ∧ Below w.heap.size w w' := by
 have HB := Aside0.mk (Below.refl w.heap.size w)
 have H : ((num_Clamp.f a0 0 (wrap64 ((wrap64 (a1 - 1)) * a2))).bind fun t111 => (if a2 = 0 then (none) else (some (mn (wrap64 (Int.tdiv t111 a2)) (wrap64 (a1 - 2)), wrap64 (t111 - (wrap64 ((mn (wrap64 (Int.tdiv t111 a2)) (wrap64 (a1 - 2))) * a2))))))) = some (r1, r2) := h
 clear h
 replace H := Option.bind_eq_some_iff.mp H
 obtain ⟨t111, A40, H⟩ := H
 try dsimp only at H
 have A4 := Aside0.mk A40
 clear A40
 by_cases c5 : a2 = 0
 ·rw [if_pos c5] at H
  exact absurd H (by simp)
 rw [if_neg c5] at H
 have E2 : (a2 == 0) = false := beq_eq_false_iff_ne.mpr c5
 have E3 : (a2 != 0) = true := bne_iff_ne.mpr c5
 obtain ⟨E1, E0⟩ : ∃ j_ : Int, (mn (wrap64 (Int.tdiv t111 a2)) (wrap64 (a1 - 2))) = j_ := ⟨_, rfl⟩
 replace H : (some (E1, wrap64 (t111 - (wrap64 ((E1) * a2))))) = some (r1, r2) := by first | (rw [E0] at H; exact H) | (simp only [E0] at H ⊢; exact H)
 (try rw [E0] at A4)
 have hji6_ : (if (wrap64 (a1 - 2)) < (wrap64 (Int.tdiv t111 a2)) then (wrap64 (a1 - 2)) else (wrap64 (Int.tdiv t111 a2))) = E1 := E0
 simp only [Option.some.injEq, Prod.mk.injEq] at H
 obtain ⟨rfl, rfl⟩ := H
 go_enter Try.func65, Try.ntmps65
 go_wp2_with (first | ((with_reducible refine gate_callee (f := 49) rfl ?_); refine goesL_ (some 15) rfl rfl Try.func49 (by kernel_rfl) rfl #[.int .i64 a0, .int .i64 0, .int .i64 (wrap64 ((wrap64 (a1 - 1)) * a2))] rfl (by (try simp only [List.map_toArray, List.map_cons, List.map_nil]); first | done | rfl | (simp only [List.length_drop, List.length_take]; rfl)) ?_; (with_reducible refine (num_Clamp.calls a0 0 (wrap64 ((wrap64 (a1 - 1)) * a2)) t111 _ A4.out).mono ?_); rintro e w7 ⟨rfl, hb⟩; refine ⟨_, rfl, ?_⟩; replace HB := zb HB hb; (try clear hb)))
 go_ret2
 exact ⟨by first | rfl | (simp [errW_none, errW_some] <;> rfl) | (simp only [← E0]; first | rfl | (simp [errW_none, errW_some] <;> rfl)) | (simp [*, errW_none, errW_some] <;> rfl), by exact zb0 HB⟩

/-! ### num_Floor: function 79 -/
def num_Floor.f (a0 : Int) (a1 : Int) : Option (Int) := if a1 = 0 then (some 0) else (if a1 = (-1) then (if a0 = (-9223372036854775808) then (some 9223372036854775807) else (some (wrap64 (-a0)))) else (if (Int.tmod a0 a1) = 0 then (some (wrap64 (Int.tdiv a0 a1))) else (if ((decide (a0 < 0)) != (decide (a1 < 0))) = true then (some (wrap64 ((wrap64 (Int.tdiv a0 a1)) - 1))) else (some (wrap64 (Int.tdiv a0 a1))))))
set_option maxHeartbeats 8000000 in
set_option maxRecDepth 100000 in
theorem num_Floor.calls (a0 : Int) (a1 : Int) (r : Int) (w : World) (h : num_Floor.f a0 a1 = some r) :
  Calls Try.prog 79 #[.int .i64 a0, .int .i64 a1] w fun e w' => e = .returned (.int .i64 r) ∧ Drawn0 w w' := by
 have H : (if a1 = 0 then (some 0) else (if a1 = (-1) then (if a0 = (-9223372036854775808) then (some 9223372036854775807) else (some (wrap64 (-a0)))) else (if (Int.tmod a0 a1) = 0 then (some (wrap64 (Int.tdiv a0 a1))) else (if ((decide (a0 < 0)) != (decide (a1 < 0))) = true then (some (wrap64 ((wrap64 (Int.tdiv a0 a1)) - 1))) else (some (wrap64 (Int.tdiv a0 a1))))))) = some r := h
 clear h
 by_cases c3 : a1 = 0
 ·rw [if_pos c3] at H
  have E0 : (a1 == 0) = true := beq_iff_eq.mpr c3
  have E1 : (a1 != 0) = false := bne_eq_false_iff_eq.mpr c3
  clear c3
  obtain rfl := Option.some.inj H
  go_enter Try.func79, Try.ntmps79
  go_wp2
  go_ret
  exact ⟨by first | rfl | (simp; done) | (simp [*]; done), by repeat (first | exact Drawn0.refl _ | apply Drawn0.step)⟩
 rw [if_neg c3] at H
 have E0 : (a1 == 0) = false := beq_eq_false_iff_ne.mpr c3
 have E1 : (a1 != 0) = true := bne_iff_ne.mpr c3
 by_cases c4 : a1 = (-1)
 ·rw [if_pos c4] at H
  have E2 : (a1 == (-1)) = true := beq_iff_eq.mpr c4
  have E3 : (a1 != (-1)) = false := bne_eq_false_iff_eq.mpr c4
  clear c4
  by_cases c5 : a0 = (-9223372036854775808)
  ·rw [if_pos c5] at H
   have E4 : (a0 == (-9223372036854775808)) = true := beq_iff_eq.mpr c5
   have E5 : (a0 != (-9223372036854775808)) = false := bne_eq_false_iff_eq.mpr c5
   clear c5
   obtain rfl := Option.some.inj H
   go_enter Try.func79, Try.ntmps79
   go_wp2
   go_ret
   exact ⟨by first | rfl | (simp; done) | (simp [*]; done), by repeat (first | exact Drawn0.refl _ | apply Drawn0.step)⟩
  rw [if_neg c5] at H
  have E4 : (a0 == (-9223372036854775808)) = false := beq_eq_false_iff_ne.mpr c5
  have E5 : (a0 != (-9223372036854775808)) = true := bne_iff_ne.mpr c5
  obtain rfl := Option.some.inj H
  go_enter Try.func79, Try.ntmps79
  go_wp2
  go_ret
  exact ⟨by first | rfl | (simp; done) | (simp [*]; done), by repeat (first | exact Drawn0.refl _ | apply Drawn0.step)⟩
 rw [if_neg c4] at H
 have E2 : (a1 == (-1)) = false := beq_eq_false_iff_ne.mpr c4
 have E3 : (a1 != (-1)) = true := bne_iff_ne.mpr c4
 by_cases c6 : (Int.tmod a0 a1) = 0
 ·rw [if_pos c6] at H
  have E6 : ((Int.tmod a0 a1) == 0) = true := beq_iff_eq.mpr c6
  have E7 : ((Int.tmod a0 a1) != 0) = false := bne_eq_false_iff_eq.mpr c6
  clear c6
  obtain rfl := Option.some.inj H
  go_enter Try.func79, Try.ntmps79
  go_wp2
  go_ret
  exact ⟨by first | rfl | (simp; done) | (simp [*]; done), by repeat (first | exact Drawn0.refl _ | apply Drawn0.step)⟩
 rw [if_neg c6] at H
 have E6 : ((Int.tmod a0 a1) == 0) = false := beq_eq_false_iff_ne.mpr c6
 have E7 : ((Int.tmod a0 a1) != 0) = true := bne_iff_ne.mpr c6
 by_cases c7 : ((decide (a0 < 0)) != (decide (a1 < 0))) = true
 ·rw [if_pos c7] at H
  have E8 : ((decide (a0 < 0)) != (decide (a1 < 0))) = true := c7
  (try (have E9 : decide ((decide (a0 < 0)) = (decide (a1 < 0))) = false := by simpa using c7))
  (try (have G0 : ((decide (a0 < 0)) == (decide (a1 < 0))) = false := by simpa using c7))
  (try (have G1 : ¬ ((decide (a0 < 0)) = (decide (a1 < 0))) := by simpa using c7))
  clear c7
  obtain rfl := Option.some.inj H
  go_enter Try.func79, Try.ntmps79
  go_wp2
  go_ret
  exact ⟨by first | rfl | (simp; done) | (simp [*]; done), by repeat (first | exact Drawn0.refl _ | apply Drawn0.step)⟩
 rw [if_neg c7] at H
 have E8 : ((decide (a0 < 0)) != (decide (a1 < 0))) = false := by simpa using c7
 (try (have E9 : decide ((decide (a0 < 0)) = (decide (a1 < 0))) = true := by simpa using c7))
 (try (have G0 : ((decide (a0 < 0)) == (decide (a1 < 0))) = true := by simpa using c7))
 clear c7
 obtain rfl := Option.some.inj H
 go_enter Try.func79, Try.ntmps79
 go_wp2
 go_ret
 exact ⟨by first | rfl | (simp; done) | (simp [*]; done), by repeat (first | exact Drawn0.refl _ | apply Drawn0.step)⟩

/-! ### num_Div: function 67 -/
def num_Div.j0 : Nat → Int → Int → Int → Bool → Option (Int)
 | 0, _, _, _, _ => none
 | k + 1, x0, x1, x5, x15 => if x15 = true then (some x5) else (if x1 > 0 then (if (wrap64 (x0 - (wrap64 (x5 * x1)))) ≥ (wrap64 (x1 - (wrap64 (x0 - (wrap64 (x5 * x1)))))) then (some (wrap64 (x5 + 1))) else (if x1 < 0 then (if (wrap64 (x0 - (wrap64 (x5 * x1)))) ≤ (wrap64 (x1 - (wrap64 (x0 - (wrap64 (x5 * x1)))))) then (some (wrap64 (x5 + 1))) else (some x5)) else (some x5))) else (if x1 < 0 then (if (wrap64 (x0 - (wrap64 (x5 * x1)))) ≤ (wrap64 (x1 - (wrap64 (x0 - (wrap64 (x5 * x1)))))) then (some (wrap64 (x5 + 1))) else (some x5)) else (some x5)))
def num_Div.f (k : Nat) (a0 : Int) (a1 : Int) : Option (Int) := (num_Floor.f a0 a1).bind fun t112 => (if a1 = 0 then (num_Div.j0 k a0 a1 t112 true) else (num_Div.j0 k a0 a1 t112 (a1 == (-1))))
theorem num_Div.mono_l : ∀ k, (∀ y0 y1 y2 y3, LeO (num_Div.j0 k y0 y1 y2 y3) (num_Div.j0 (k + 1) y0 y1 y2 y3))
 | 0 => fun _ _ _ _ r h => by simp [num_Div.j0] at h
 | k + 1 => by
  have ih0 := num_Div.mono_l k
  ·intro y0 y1 y2 y3
   unfold num_Div.j0
   repeat' first
   | (with_reducible exact ih0 _ _ _ _)
   | (with_reducible exact LeO.refl _)
   | (with_reducible exact LeO.none _)
   | (with_reducible refine LeO.ite ?_ ?_)
   | (with_reducible refine LeO.bind ?_ (fun _ => ?_))
   | exact ih0 _ _ _ _
   | exact LeO.none _
   | refine LeO.ite ?_ ?_
   | refine LeO.bind ?_ (fun _ => ?_)
theorem num_Div.mono : ∀ a0 a1 k, LeO (num_Div.f k a0 a1) (num_Div.f (k + 1) a0 a1) := by
 intro a0 a1 k
 have ih0 := num_Div.mono_l k
 unfold num_Div.f
 repeat' first
   | (with_reducible exact ih0 _ _ _ _)
   | (with_reducible exact LeO.refl _)
   | (with_reducible exact LeO.none _)
   | (with_reducible refine LeO.ite ?_ ?_)
   | (with_reducible refine LeO.bind ?_ (fun _ => ?_))
   | exact ih0 _ _ _ _
   | exact LeO.none _
   | refine LeO.ite ?_ ?_
   | refine LeO.bind ?_ (fun _ => ?_)
set_option maxHeartbeats 8000000 in
set_option maxRecDepth 100000 in
theorem num_Div.calls (k : Nat) (a0 : Int) (a1 : Int) (r : Int) (w : World) (h : num_Div.f k a0 a1 = some r) :
  Calls Try.prog 67 #[.int .i64 a0, .int .i64 a1] w fun e w' => e = .returned (.int .i64 r) ∧ Drawn0 w w' := by
 have H : ((num_Floor.f a0 a1).bind fun t112 => (if a1 = 0 then (num_Div.j0 k a0 a1 t112 true) else (num_Div.j0 k a0 a1 t112 (a1 == (-1))))) = some r := h
 clear h
 replace H := Option.bind_eq_some_iff.mp H
 obtain ⟨t112, A30, H⟩ := H
 try dsimp only at H
 have A3 := Aside0.mk A30
 clear A30
 have HC4 := Aside0.mk H
 clear H
 go_enter Try.func67, Try.ntmps67
 go_upto_region 2 with (first | ((with_reducible refine gate_callee (f := 79) rfl ?_); refine goesL_ (some 9) rfl rfl Try.func79 (by kernel_rfl) rfl #[.int .i64 a0, .int .i64 a1] rfl (by (try simp only [List.map_toArray, List.map_cons, List.map_nil]); first | done | rfl | (simp only [List.length_drop, List.length_take]; rfl)) ?_; (with_reducible refine (num_Floor.calls a0 a1 t112 _ A3.out).mono ?_); rintro e w' ⟨rfl, ⟨nd, rfl⟩⟩; refine ⟨_, rfl, ?_⟩))
 (try simp only [Act.put, sA, sB, sC])
 go_cut [15] (fun v15 wc => ∃ (kq : Nat) (x15_3 : Bool), v15 = .bool x15_3 ∧ Aside0 (num_Div.j0 kq a0 a1 t112 x15_3 = some r) ∧ Aside0 (kq ≤ k) ∧ Drawn0 w wc)
 case first =>
  have H := HC4.out
  clear HC4
  by_cases c5 : a1 = 0
  ·rw [if_pos c5] at H
   have E0 : (a1 == 0) = true := beq_iff_eq.mpr c5
   have E1 : (a1 != 0) = false := bne_eq_false_iff_eq.mpr c5
   clear c5
   (first | rw [E0] | (simp only [i64_w, i32_w]; rw [E0]) | skip)
   have H' := Aside0.mk H
   clear H
   go_wp2
   go_meet
   case rel => exact ⟨_, (true), (by first | rfl | (simp; done) | (simp [*]; done)), H', ⟨by first | omega | exact Nat.le_refl _⟩, by repeat (first | exact Drawn0.refl _ | apply Drawn0.step)⟩
  rw [if_neg c5] at H
  have E0 : (a1 == 0) = false := beq_eq_false_iff_ne.mpr c5
  have E1 : (a1 != 0) = true := bne_iff_ne.mpr c5
  (first | rw [E0] | (simp only [i64_w, i32_w]; rw [E0]) | skip)
  have H' := Aside0.mk H
  clear H
  go_wp2
  go_meet
  case rel => exact ⟨_, ((a1 == (-1))), (by first | rfl | (simp; done) | (simp [*]; done)), H', ⟨by first | omega | exact Nat.le_refl _⟩, by repeat (first | exact Drawn0.refl _ | apply Drawn0.step)⟩
 case rest =>
  clear HC4
  try clear p2
  try clear c5
  try clear E0
  try clear E1
  obtain ⟨kq, x15_3, rfl, HA, HJ3, ⟨mc3, rfl⟩⟩ := hcut
  cases kq with
  | zero => exact absurd HA.out (by simp [num_Div.j0])
  | succ kj3 =>
   have H := HA.out
   clear HA
   simp only [num_Div.j0] at H
   by_cases c6 : x15_3 = true
   ·subst c6
    rw [if_pos rfl] at H
    obtain rfl := Option.some.inj H
    go_wp2
    go_ret
    exact ⟨by first | rfl | (simp; done) | (simp [*]; done), by repeat (first | exact Drawn0.refl _ | apply Drawn0.step)⟩
   replace c6 := Bool.eq_false_iff.mpr c6
   subst c6
   rw [if_neg (show ¬ (false = true) by decide)] at H
   by_cases c7 : a1 > 0
   ·rw [if_pos c7] at H
    have E2 : decide (0 < a1) = true := decide_eq_true c7
    clear c7
    by_cases c8 : (wrap64 (a0 - (wrap64 (t112 * a1)))) ≥ (wrap64 (a1 - (wrap64 (a0 - (wrap64 (t112 * a1))))))
    ·rw [if_pos c8] at H
     have E3 : decide ((wrap64 (a1 - (wrap64 (a0 - (wrap64 (t112 * a1)))))) ≤ (wrap64 (a0 - (wrap64 (t112 * a1))))) = true := decide_eq_true c8
     clear c8
     obtain rfl := Option.some.inj H
     go_wp2
     go_ret
     exact ⟨by first | rfl | (simp; done) | (simp [*]; done), by repeat (first | exact Drawn0.refl _ | apply Drawn0.step)⟩
    rw [if_neg c8] at H
    have E3 : decide ((wrap64 (a1 - (wrap64 (a0 - (wrap64 (t112 * a1)))))) ≤ (wrap64 (a0 - (wrap64 (t112 * a1))))) = false := decide_eq_false c8
    clear c8
    by_cases c9 : a1 < 0
    ·rw [if_pos c9] at H
     have E4 : decide (a1 < 0) = true := decide_eq_true c9
     clear c9
     by_cases c10 : (wrap64 (a0 - (wrap64 (t112 * a1)))) ≤ (wrap64 (a1 - (wrap64 (a0 - (wrap64 (t112 * a1))))))
     ·rw [if_pos c10] at H
      have E5 : decide ((wrap64 (a0 - (wrap64 (t112 * a1)))) ≤ (wrap64 (a1 - (wrap64 (a0 - (wrap64 (t112 * a1))))))) = true := decide_eq_true c10
      clear c10
      obtain rfl := Option.some.inj H
      go_wp2
      go_ret
      exact ⟨by first | rfl | (simp; done) | (simp [*]; done), by repeat (first | exact Drawn0.refl _ | apply Drawn0.step)⟩
     rw [if_neg c10] at H
     have E5 : decide ((wrap64 (a0 - (wrap64 (t112 * a1)))) ≤ (wrap64 (a1 - (wrap64 (a0 - (wrap64 (t112 * a1))))))) = false := decide_eq_false c10
     clear c10
     obtain rfl := Option.some.inj H
     go_wp2
     go_ret
     exact ⟨by first | rfl | (simp; done) | (simp [*]; done), by repeat (first | exact Drawn0.refl _ | apply Drawn0.step)⟩
    rw [if_neg c9] at H
    have E4 : decide (a1 < 0) = false := decide_eq_false c9
    clear c9
    obtain rfl := Option.some.inj H
    go_wp2
    go_ret
    exact ⟨by first | rfl | (simp; done) | (simp [*]; done), by repeat (first | exact Drawn0.refl _ | apply Drawn0.step)⟩
   rw [if_neg c7] at H
   have E2 : decide (0 < a1) = false := decide_eq_false c7
   clear c7
   by_cases c11 : a1 < 0
   ·rw [if_pos c11] at H
    have E6 : decide (a1 < 0) = true := decide_eq_true c11
    clear c11
    by_cases c12 : (wrap64 (a0 - (wrap64 (t112 * a1)))) ≤ (wrap64 (a1 - (wrap64 (a0 - (wrap64 (t112 * a1))))))
    ·rw [if_pos c12] at H
     have E7 : decide ((wrap64 (a0 - (wrap64 (t112 * a1)))) ≤ (wrap64 (a1 - (wrap64 (a0 - (wrap64 (t112 * a1))))))) = true := decide_eq_true c12
     clear c12
     obtain rfl := Option.some.inj H
     go_wp2
     go_ret
     exact ⟨by first | rfl | (simp; done) | (simp [*]; done), by repeat (first | exact Drawn0.refl _ | apply Drawn0.step)⟩
    rw [if_neg c12] at H
    have E7 : decide ((wrap64 (a0 - (wrap64 (t112 * a1)))) ≤ (wrap64 (a1 - (wrap64 (a0 - (wrap64 (t112 * a1))))))) = false := decide_eq_false c12
    clear c12
    obtain rfl := Option.some.inj H
    go_wp2
    go_ret
    exact ⟨by first | rfl | (simp; done) | (simp [*]; done), by repeat (first | exact Drawn0.refl _ | apply Drawn0.step)⟩
   rw [if_neg c11] at H
   have E6 : decide (a1 < 0) = false := decide_eq_false c11
   clear c11
   obtain rfl := Option.some.inj H
   go_wp2
   go_ret
   exact ⟨by first | rfl | (simp; done) | (simp [*]; done), by repeat (first | exact Drawn0.refl _ | apply Drawn0.step)⟩

/-! ### warp_at_1: function 66 -/
def warp_at_1.f (k : Nat) (a0 : Int) (a1 : Int) (a2 : Int) (a3 : Int) (a4_0 : Int) (a5_0 : Int) (a6_0 : Int) : Option (Int) := (num_Div.f k (wrap64 ((wrap64 ((wrap64 ((wrap64 ((wrap64 ((wrap64 (a4_0 - a5_0)) * (wrap64 (a4_0 - a6_0)))) * a0)) + (wrap64 ((wrap64 (a5_0 * (wrap64 (a4_0 - a6_0)))) * a1)))) + (wrap64 ((wrap64 ((wrap64 (a4_0 - a5_0)) * a6_0)) * a2)))) + (wrap64 ((wrap64 (a5_0 * a6_0)) * a3)))) (wrap64 (a4_0 * a4_0))).bind fun t116 => (some t116)
theorem warp_at_1.mono : ∀ a0 a1 a2 a3 a4 a5 a6 k, LeO (warp_at_1.f k a0 a1 a2 a3 a4 a5 a6) (warp_at_1.f (k + 1) a0 a1 a2 a3 a4 a5 a6) := by
 intro a0 a1 a2 a3 a4 a5 a6 k
 unfold warp_at_1.f
 repeat' first
   | (with_reducible exact num_Div.mono _ _ _)
   | (with_reducible exact LeO.refl _)
   | (with_reducible exact LeO.none _)
   | (with_reducible refine LeO.ite ?_ ?_)
   | (with_reducible refine LeO.bind ?_ (fun _ => ?_))
   | exact num_Div.mono _ _ _
   | exact LeO.none _
   | refine LeO.ite ?_ ?_
   | refine LeO.bind ?_ (fun _ => ?_)
set_option maxHeartbeats 8000000 in
set_option maxRecDepth 100000 in
theorem warp_at_1.calls (k : Nat) (a0 : Int) (a1 : Int) (a2 : Int) (a3 : Int) (E0 : Nat) (a4_0 : Int) (E1 : Nat) (a5_0 : Int) (E2 : Nat) (a6_0 : Int) (r : Int) (w : World) (hp4_0 : w.heap[E0]? = some (.cells #[.int .i64 a4_0] 3 (0, 0))) (hp5_0 : w.heap[E1]? = some (.cells #[.int .i64 a5_0] 3 (0, 0))) (hp6_0 : w.heap[E2]? = some (.cells #[.int .i64 a6_0] 3 (0, 0))) (h : warp_at_1.f k a0 a1 a2 a3 a4_0 a5_0 a6_0 = some r) :
  Calls Try.prog 66 #[.int .i64 a0, .int .i64 a1, .int .i64 a2, .int .i64 a3, .pointer (some ⟨E0, 0, none⟩), .pointer (some ⟨E1, 0, none⟩), .pointer (some ⟨E2, 0, none⟩)] w fun e w' => e = .returned (.int .i64 r) ∧ Below w.heap.size w w' := by
 have E3 := Aside0.mk hp4_0
 have GL113 := Aside0.mk (show E0 < w.heap.size from blk_lt hp4_0)
 clear hp4_0
 have E4 := Aside0.mk hp5_0
 have GL114 := Aside0.mk (show E1 < w.heap.size from blk_lt hp5_0)
 clear hp5_0
 have E5 := Aside0.mk hp6_0
 have GL115 := Aside0.mk (show E2 < w.heap.size from blk_lt hp6_0)
 clear hp6_0
 have HB := Aside0.mk (Below.refl w.heap.size w)
 have H : ((num_Div.f k (wrap64 ((wrap64 ((wrap64 ((wrap64 ((wrap64 ((wrap64 (a4_0 - a5_0)) * (wrap64 (a4_0 - a6_0)))) * a0)) + (wrap64 ((wrap64 (a5_0 * (wrap64 (a4_0 - a6_0)))) * a1)))) + (wrap64 ((wrap64 ((wrap64 (a4_0 - a5_0)) * a6_0)) * a2)))) + (wrap64 ((wrap64 (a5_0 * a6_0)) * a3)))) (wrap64 (a4_0 * a4_0))).bind fun t116 => (some t116)) = some r := h
 clear h
 replace H := Option.bind_eq_some_iff.mp H
 obtain ⟨t116, A80, H⟩ := H
 try dsimp only at H
 have A8 := Aside0.mk A80
 clear A80
 obtain rfl := Option.some.inj H
 obtain ⟨E6, E7⟩ := zq1 E3
 obtain ⟨E8, E9⟩ := zq1 E4
 obtain ⟨G0, G1⟩ := zq1 E5
 go_enter Try.func66, Try.ntmps66
 go_wp2_with (first | ((with_reducible refine gate_callee (f := 67) rfl ?_); refine goesL_ (some 46) rfl rfl Try.func67 (by kernel_rfl) rfl #[.int .i64 (wrap64 ((wrap64 ((wrap64 ((wrap64 ((wrap64 ((wrap64 (a4_0 - a5_0)) * (wrap64 (a4_0 - a6_0)))) * a0)) + (wrap64 ((wrap64 (a5_0 * (wrap64 (a4_0 - a6_0)))) * a1)))) + (wrap64 ((wrap64 ((wrap64 (a4_0 - a5_0)) * a6_0)) * a2)))) + (wrap64 ((wrap64 (a5_0 * a6_0)) * a3)))), .int .i64 (wrap64 (a4_0 * a4_0))] rfl (by (try simp only [List.map_toArray, List.map_cons, List.map_nil]); first | done | rfl | (simp only [List.length_drop, List.length_take]; rfl)) ?_; (with_reducible refine (num_Div.calls k (wrap64 ((wrap64 ((wrap64 ((wrap64 ((wrap64 ((wrap64 (a4_0 - a5_0)) * (wrap64 (a4_0 - a6_0)))) * a0)) + (wrap64 ((wrap64 (a5_0 * (wrap64 (a4_0 - a6_0)))) * a1)))) + (wrap64 ((wrap64 ((wrap64 (a4_0 - a5_0)) * a6_0)) * a2)))) + (wrap64 ((wrap64 (a5_0 * a6_0)) * a3)))) (wrap64 (a4_0 * a4_0)) t116 _ A8.out).mono ?_); rintro e w' ⟨rfl, ⟨nd, rfl⟩⟩; refine ⟨_, rfl, ?_⟩))
 go_ret
 exact ⟨by first | rfl | (simp [errW_none, errW_some] <;> rfl) | (simp [*, errW_none, errW_some] <;> rfl), by exact zb0 HB⟩

end Go.Proofs.Ytnfbabmceddciaa.G
