/- Contracts of functions of the program, each as it is called: what it computes (.f), that it computes no less with more rounds (.mono), and that a call returns just that (.calls). No conditions but those that each contract names. Written by a program of this session (wip/gx.py over the kit's print). -/
import Derived.Test.YtnfbabmceddciaaG0
namespace Go.Proofs.Ytnfbabmceddciaa.G
open Go.RowKit Go.Proofs.YtnfbabmceddciaaW.PrintWords Go.Proofs.YtnfbabmceddciaaW.PrintLast Go.Proofs.YtnfbabmceddciaaW.PrintMore
attribute [local go_sem] max2_int min2_int max_two min_two max_three min_three max_four min_four max_five min_five   -- for this text's walks alone
set_option linter.unusedVariables false
set_option linter.unusedSimpArgs false


/-! ### warp_Check_1: function 28 -/
def warp_Check_1.f (a0 : Int) : Option (Bool) := if a0 ≥ 2 then (some (decide (a0 ≤ 8))) else (some false)
set_option maxHeartbeats 8000000 in
set_option maxRecDepth 100000 in
theorem warp_Check_1.calls (a0 : Int) (r : Bool) (w : World) (h : warp_Check_1.f a0 = some r) :
  Calls Try.prog 28 #[.int .i64 a0] w fun e w' => e = .returned (.bool r) ∧ Drawn0 w w' := by
 have H : (if a0 ≥ 2 then (some (decide (a0 ≤ 8))) else (some false)) = some r := h
 clear h
 by_cases c2 : a0 ≥ 2
 ·rw [if_pos c2] at H
  have c2b0 : decide (2 ≤ a0) = true := decide_eq_true c2
  clear c2
  obtain rfl := Option.some.inj H
  go_enter Try.func28, Try.ntmps28
  go_wp2
  go_ret
  exact ⟨by first | rfl | (simp; done) | (simp [*]; done), by repeat (first | exact Drawn0.refl _ | apply Drawn0.step)⟩
 ·rw [if_neg c2] at H
  have c2b0 : decide (2 ≤ a0) = false := decide_eq_false c2
  clear c2
  obtain rfl := Option.some.inj H
  go_enter Try.func28, Try.ntmps28
  go_wp2
  go_ret
  exact ⟨by first | rfl | (simp; done) | (simp [*]; done), by repeat (first | exact Drawn0.refl _ | apply Drawn0.step)⟩

/-! ### warp_Check: function 10 -/
mutual
def warp_Check.j0 : Nat → Bool → Int → Int → Int → List (S28) → Option (Int)
 | 0, _, _, _, _, _ => none
 | k + 1, x38, x102000, x102001, x102002, x102003 => if x38 = true then (some 15) else (warp_Check.l0 k x102003 (x102003.length : Int) 0)
def warp_Check.l0 : Nat → List (S28) → Int → Int → Option (Int)
 | 0, _, _, _ => none
 | k + 1, x40, x41, x42 => if x42 < x41 then (if 0 ≤ x42 then (if x42 < (x40.length : Int) then (if ((rd_T28 x40 x42).f0) < (-1048576) then (some 2) else (if ((rd_T28 x40 x42).f0) > 1048576 then (some 2) else (if ((rd_T28 x40 x42).f1) < (-1048576) then (some 2) else (if ((rd_T28 x40 x42).f1) > 1048576 then (some 2) else (warp_Check.l0 k x40 x41 (wrap64 (x42 + 1))))))) else (none)) else (none)) else (some 0)
end
def warp_Check.f (k : Nat) (a0_0 : Int) (a0_1 : Int) (a0_2 : Int) (l0_3 : List (S28)) : Option (Int) := (warp_Check_1.f a0_0).bind fun t102 => (if t102 = true then ((warp_Check_1.f a0_1).bind fun t103 => (if t103 = true then (if a0_2 < 1 then (warp_Check.j0 k true a0_0 a0_1 a0_2 l0_3) else (if a0_2 > 256 then (warp_Check.j0 k true a0_0 a0_1 a0_2 l0_3) else (warp_Check.j0 k ((l0_3.length : Int) != (wrap64 (a0_0 * a0_1))) a0_0 a0_1 a0_2 l0_3))) else (warp_Check.j0 k true a0_0 a0_1 a0_2 l0_3))) else (warp_Check.j0 k true a0_0 a0_1 a0_2 l0_3))
theorem warp_Check.mono_l : ∀ k, (∀ y0 y1 y2 y3 y4, LeO (warp_Check.j0 k y0 y1 y2 y3 y4) (warp_Check.j0 (k + 1) y0 y1 y2 y3 y4)) ∧ (∀ y0 y1 y2, LeO (warp_Check.l0 k y0 y1 y2) (warp_Check.l0 (k + 1) y0 y1 y2))
 | 0 => ⟨fun _ _ _ _ _ r h => by simp [warp_Check.j0] at h, fun _ _ _ r h => by simp [warp_Check.l0] at h⟩
 | k + 1 => by
  obtain ⟨ih0, ih1⟩ := warp_Check.mono_l k
  refine ⟨?_, ?_⟩
  ·intro y0 y1 y2 y3 y4
   unfold warp_Check.j0
   repeat' first
   | (with_reducible exact ih0 _ _ _ _ _)
   | (with_reducible exact ih1 _ _ _)
   | (with_reducible exact LeO.refl _)
   | (with_reducible exact LeO.none _)
   | (with_reducible refine LeO.ite ?_ ?_)
   | (with_reducible refine LeO.bind ?_ (fun _ => ?_))
   | exact ih0 _ _ _ _ _
   | exact ih1 _ _ _
   | exact LeO.none _
   | refine LeO.ite ?_ ?_
   | refine LeO.bind ?_ (fun _ => ?_)
  ·intro y0 y1 y2
   unfold warp_Check.l0
   repeat' first
   | (with_reducible exact ih0 _ _ _ _ _)
   | (with_reducible exact ih1 _ _ _)
   | (with_reducible exact LeO.refl _)
   | (with_reducible exact LeO.none _)
   | (with_reducible refine LeO.ite ?_ ?_)
   | (with_reducible refine LeO.bind ?_ (fun _ => ?_))
   | exact ih0 _ _ _ _ _
   | exact ih1 _ _ _
   | exact LeO.none _
   | refine LeO.ite ?_ ?_
   | refine LeO.bind ?_ (fun _ => ?_)
theorem warp_Check.mono : ∀ a0 a1 a2 a3 k, LeO (warp_Check.f k a0 a1 a2 a3) (warp_Check.f (k + 1) a0 a1 a2 a3) := by
 intro a0 a1 a2 a3 k
 obtain ⟨ih0, ih1⟩ := warp_Check.mono_l k
 unfold warp_Check.f
 repeat' first
   | (with_reducible exact ih0 _ _ _ _ _)
   | (with_reducible exact ih1 _ _ _)
   | (with_reducible exact LeO.refl _)
   | (with_reducible exact LeO.none _)
   | (with_reducible refine LeO.ite ?_ ?_)
   | (with_reducible refine LeO.bind ?_ (fun _ => ?_))
   | exact ih0 _ _ _ _ _
   | exact ih1 _ _ _
   | exact LeO.none _
   | refine LeO.ite ?_ ?_
   | refine LeO.bind ?_ (fun _ => ?_)
set_option maxHeartbeats 8000000 in
set_option maxRecDepth 100000 in
theorem warp_Check.calls (k : Nat) (a0_0 : Int) (a0_1 : Int) (a0_2 : Int) (A0_3 : Option Addr) (c0_3 : Nat) (l0_3 : List (S28)) (r : Int) (w : World) (hr0_3 : Kd.C k28 w A0_3 l0_3.length l0_3) (hc0_3 : l0_3.length ≤ c0_3) (h : warp_Check.f k a0_0 a0_1 a0_2 l0_3 = some r) :
  Calls Try.prog 10 #[.agg #[.int .i64 a0_0, .int .i64 a0_1, .int .i64 a0_2, .slice A0_3 l0_3.length c0_3]] w fun e w' => e = .returned (.int .i64 r) ∧ Below w.heap.size w w' := by
 have hu24 := Try.underlying24
 have hu28 := Try.underlying28
 have HR0_3 := Aside0.mk hr0_3
 have HC0_3 := Aside0.mk hc0_3
 clear hr0_3 hc0_3
 have HB := Aside0.mk (Below.refl w.heap.size w)
 have H : ((warp_Check_1.f a0_0).bind fun t102 => (if t102 = true then ((warp_Check_1.f a0_1).bind fun t103 => (if t103 = true then (if a0_2 < 1 then (warp_Check.j0 k true a0_0 a0_1 a0_2 l0_3) else (if a0_2 > 256 then (warp_Check.j0 k true a0_0 a0_1 a0_2 l0_3) else (warp_Check.j0 k ((l0_3.length : Int) != (wrap64 (a0_0 * a0_1))) a0_0 a0_1 a0_2 l0_3))) else (warp_Check.j0 k true a0_0 a0_1 a0_2 l0_3))) else (warp_Check.j0 k true a0_0 a0_1 a0_2 l0_3))) = some r := h
 clear h
 have HC2 := Aside0.mk H
 clear H
 go_enter Try.func10, Try.ntmps10
 go_upto_region 2 with (first | ((with_reducible refine gate_dst (N := 1) rfl ?_); (try (refine gate_guard (by rfl) ?_; dsimp only)); refine box_event ?hg (N := 1) ?hd (cs := #[.int .i64 a0_0, .int .i64 a0_1, .int .i64 a0_2, .slice A0_3 l0_3.length c0_3]) (t := 24) ?hr ?_; (case hd => rfl); (case hg => rfl); (case hr => first | (go_simp; done) | (go_simp; rfl)); intro gb101 hg w3 hbox hb; have GW101 := zg HB hg; have GE101 := zg HB hg; have n0_ := Aside0.mk (hbox); replace HB := zb HB hb; have BK101 := n0_; clear n0_; clear hb hbox hg))
 (try simp only [Act.put, sA, sB, sC])
 go_cut [38] (fun v38 wc => ∃ (kq : Nat) (x38_1 : Bool), v38 = .bool x38_1 ∧ Aside0 (warp_Check.j0 kq x38_1 a0_0 a0_1 a0_2 l0_3 = some r) ∧ Aside0 (kq ≤ k) ∧ Aside0 (wc.heap[gb101]? = some (.cells #[.int .i64 a0_0, .int .i64 a0_1, .int .i64 a0_2, (.slice A0_3 l0_3.length c0_3)] 24 (0, 0))) ∧ Aside0 (Below w.heap.size w wc))
 case first =>
  have H := HC2.out
  clear HC2
  replace H := Option.bind_eq_some_iff.mp H
  obtain ⟨t102, A40, H⟩ := H
  replace H : (if t102 = true then ((warp_Check_1.f a0_1).bind fun t103 => (if t103 = true then (if a0_2 < 1 then (warp_Check.j0 k true a0_0 a0_1 a0_2 l0_3) else (if a0_2 > 256 then (warp_Check.j0 k true a0_0 a0_1 a0_2 l0_3) else (warp_Check.j0 k ((l0_3.length : Int) != (wrap64 (a0_0 * a0_1))) a0_0 a0_1 a0_2 l0_3))) else (warp_Check.j0 k true a0_0 a0_1 a0_2 l0_3))) else (warp_Check.j0 k true a0_0 a0_1 a0_2 l0_3)) = some r := H
  have A4 := Aside0.mk A40
  clear A40
  by_cases c5 : t102 = true
  ·subst c5
   have H1 : ((warp_Check_1.f a0_1).bind fun t103 => (if t103 = true then (if a0_2 < 1 then (warp_Check.j0 k true a0_0 a0_1 a0_2 l0_3) else (if a0_2 > 256 then (warp_Check.j0 k true a0_0 a0_1 a0_2 l0_3) else (warp_Check.j0 k ((l0_3.length : Int) != (wrap64 (a0_0 * a0_1))) a0_0 a0_1 a0_2 l0_3))) else (warp_Check.j0 k true a0_0 a0_1 a0_2 l0_3))) = some r := by rw [if_pos rfl] at H; exact H
   clear H
   have H := H1
   clear H1
   replace H := Option.bind_eq_some_iff.mp H
   obtain ⟨t103, A60, H⟩ := H
   replace H : (if t103 = true then (if a0_2 < 1 then (warp_Check.j0 k true a0_0 a0_1 a0_2 l0_3) else (if a0_2 > 256 then (warp_Check.j0 k true a0_0 a0_1 a0_2 l0_3) else (warp_Check.j0 k ((l0_3.length : Int) != (wrap64 (a0_0 * a0_1))) a0_0 a0_1 a0_2 l0_3))) else (warp_Check.j0 k true a0_0 a0_1 a0_2 l0_3)) = some r := H
   have A6 := Aside0.mk A60
   clear A60
   by_cases c7 : t103 = true
   ·subst c7
    have H1 : (if a0_2 < 1 then (warp_Check.j0 k true a0_0 a0_1 a0_2 l0_3) else (if a0_2 > 256 then (warp_Check.j0 k true a0_0 a0_1 a0_2 l0_3) else (warp_Check.j0 k ((l0_3.length : Int) != (wrap64 (a0_0 * a0_1))) a0_0 a0_1 a0_2 l0_3))) = some r := by rw [if_pos rfl] at H; exact H
    clear H
    have H := H1
    clear H1
    by_cases c8 : a0_2 < 1
    ·rw [if_pos c8] at H
     have c8b0 : decide (a0_2 < 1) = true := decide_eq_true c8
     clear c8
     (first | rw [c8b0] | (simp only [i64_w, i32_w]; rw [c8b0]) | skip)
     have H' := Aside0.mk H
     clear H
     obtain ⟨hcz9_0, hcz9_1, hcz9_2, hcz9_3, hfz9_0, hfz9_1, hfz9_2, hfz9_3⟩ := zq4 BK101
     go_wp2_with (first | ((with_reducible refine gate_calleeT (t := 6) rfl ?_); refine goesLT_ (some 9) rfl rfl Try.func28 (by kernel_rfl) rfl #[] #[.int .i64 a0_0] rfl (by first | rfl | (go_simp; done) | (go_simp; rfl)) (by (try simp only [List.map_toArray, List.map_cons, List.map_nil]); first | done | rfl | (go_simp; done) | (go_simp; rfl)) ?_; (with_reducible refine (warp_Check_1.calls a0_0 true _ A4.out).mono ?_); rintro e w' ⟨rfl, ⟨nd, rfl⟩⟩; refine ⟨_, rfl, ?_⟩) | (go_at_call 28; (with_reducible refine (warp_Check_1.calls a0_1 true _ A6.out).mono ?_); rintro e w' ⟨rfl, ⟨nd, rfl⟩⟩))
     go_meet
     case rel => exact ⟨_, (true), (by first | rfl | (simp; done) | (simp [*]; done)), H', ⟨by first | omega | exact Nat.le_refl _⟩, ⟨by exact zk0 BK101⟩, ⟨by exact zb0 HB⟩⟩
    ·rw [if_neg c8] at H
     have c8b0 : decide (a0_2 < 1) = false := decide_eq_false c8
     clear c8
     (first | rw [c8b0] | (simp only [i64_w, i32_w]; rw [c8b0]) | skip)
     by_cases c10 : a0_2 > 256
     ·rw [if_pos c10] at H
      have c10b0 : decide (256 < a0_2) = true := decide_eq_true c10
      clear c10
      have H' := Aside0.mk H
      clear H
      obtain ⟨hcz11_0, hcz11_1, hcz11_2, hcz11_3, hfz11_0, hfz11_1, hfz11_2, hfz11_3⟩ := zq4 BK101
      go_wp2_with (first | ((with_reducible refine gate_calleeT (t := 6) rfl ?_); refine goesLT_ (some 9) rfl rfl Try.func28 (by kernel_rfl) rfl #[] #[.int .i64 a0_0] rfl (by first | rfl | (go_simp; done) | (go_simp; rfl)) (by (try simp only [List.map_toArray, List.map_cons, List.map_nil]); first | done | rfl | (go_simp; done) | (go_simp; rfl)) ?_; (with_reducible refine (warp_Check_1.calls a0_0 true _ A4.out).mono ?_); rintro e w' ⟨rfl, ⟨nd, rfl⟩⟩; refine ⟨_, rfl, ?_⟩) | (go_at_call 28; (with_reducible refine (warp_Check_1.calls a0_1 true _ A6.out).mono ?_); rintro e w' ⟨rfl, ⟨nd, rfl⟩⟩))
      go_meet
      case rel => exact ⟨_, (true), (by first | rfl | (simp; done) | (simp [*]; done)), H', ⟨by first | omega | exact Nat.le_refl _⟩, ⟨by exact zk0 BK101⟩, ⟨by exact zb0 HB⟩⟩
     ·rw [if_neg c10] at H
      have c10b0 : decide (256 < a0_2) = false := decide_eq_false c10
      clear c10
      have H' := Aside0.mk H
      clear H
      obtain ⟨hcz12_0, hcz12_1, hcz12_2, hcz12_3, hfz12_0, hfz12_1, hfz12_2, hfz12_3⟩ := zq4 BK101
      go_wp2_with (first | ((with_reducible refine gate_calleeT (t := 6) rfl ?_); refine goesLT_ (some 9) rfl rfl Try.func28 (by kernel_rfl) rfl #[] #[.int .i64 a0_0] rfl (by first | rfl | (go_simp; done) | (go_simp; rfl)) (by (try simp only [List.map_toArray, List.map_cons, List.map_nil]); first | done | rfl | (go_simp; done) | (go_simp; rfl)) ?_; (with_reducible refine (warp_Check_1.calls a0_0 true _ A4.out).mono ?_); rintro e w' ⟨rfl, ⟨nd, rfl⟩⟩; refine ⟨_, rfl, ?_⟩) | (go_at_call 28; (with_reducible refine (warp_Check_1.calls a0_1 true _ A6.out).mono ?_); rintro e w' ⟨rfl, ⟨nd, rfl⟩⟩))
      go_meet
      case rel => exact ⟨_, (((l0_3.length : Int) != (wrap64 (a0_0 * a0_1)))), (by first | rfl | (simp; done) | (simp [*]; done)), H', ⟨by first | omega | exact Nat.le_refl _⟩, ⟨by exact zk0 BK101⟩, ⟨by exact zb0 HB⟩⟩
   ·replace c7 := Bool.eq_false_iff.mpr c7
    subst c7
    have H1 : (warp_Check.j0 k true a0_0 a0_1 a0_2 l0_3) = some r := by rw [if_neg (show ¬ (false = true) by decide)] at H; exact H
    clear H
    have H := H1
    clear H1
    have H' := Aside0.mk H
    clear H
    obtain ⟨hcz13_0, hcz13_1, hcz13_2, hcz13_3, hfz13_0, hfz13_1, hfz13_2, hfz13_3⟩ := zq4 BK101
    go_wp2_with (first | ((with_reducible refine gate_calleeT (t := 6) rfl ?_); refine goesLT_ (some 9) rfl rfl Try.func28 (by kernel_rfl) rfl #[] #[.int .i64 a0_0] rfl (by first | rfl | (go_simp; done) | (go_simp; rfl)) (by (try simp only [List.map_toArray, List.map_cons, List.map_nil]); first | done | rfl | (go_simp; done) | (go_simp; rfl)) ?_; (with_reducible refine (warp_Check_1.calls a0_0 true _ A4.out).mono ?_); rintro e w' ⟨rfl, ⟨nd, rfl⟩⟩; refine ⟨_, rfl, ?_⟩) | (go_at_call 28; (with_reducible refine (warp_Check_1.calls a0_1 false _ A6.out).mono ?_); rintro e w' ⟨rfl, ⟨nd, rfl⟩⟩))
    go_meet
    case rel => exact ⟨_, (true), (by first | rfl | (simp; done) | (simp [*]; done)), H', ⟨by first | omega | exact Nat.le_refl _⟩, ⟨by exact zk0 BK101⟩, ⟨by exact zb0 HB⟩⟩
  ·replace c5 := Bool.eq_false_iff.mpr c5
   subst c5
   have H1 : (warp_Check.j0 k true a0_0 a0_1 a0_2 l0_3) = some r := by rw [if_neg (show ¬ (false = true) by decide)] at H; exact H
   clear H
   have H := H1
   clear H1
   have H' := Aside0.mk H
   clear H
   obtain ⟨hcz14_0, hcz14_1, hcz14_2, hcz14_3, hfz14_0, hfz14_1, hfz14_2, hfz14_3⟩ := zq4 BK101
   go_wp2_with (first | ((with_reducible refine gate_calleeT (t := 6) rfl ?_); refine goesLT_ (some 9) rfl rfl Try.func28 (by kernel_rfl) rfl #[] #[.int .i64 a0_0] rfl (by first | rfl | (go_simp; done) | (go_simp; rfl)) (by (try simp only [List.map_toArray, List.map_cons, List.map_nil]); first | done | rfl | (go_simp; done) | (go_simp; rfl)) ?_; (with_reducible refine (warp_Check_1.calls a0_0 false _ A4.out).mono ?_); rintro e w' ⟨rfl, ⟨nd, rfl⟩⟩; refine ⟨_, rfl, ?_⟩))
   go_meet
   case rel => exact ⟨_, (true), (by first | rfl | (simp; done) | (simp [*]; done)), H', ⟨by first | omega | exact Nat.le_refl _⟩, ⟨by exact zk0 BK101⟩, ⟨by exact zb0 HB⟩⟩
 case rest =>
  clear HC2
  try clear c1
  try clear c2
  try clear p2
  try clear q4
  try clear c5
  try clear p6
  try clear c7
  try clear c8
  try clear c8b0
  try clear c10
  try clear c10b0
  try clear hcz11_0
  try clear hcz11_1
  try clear hcz11_2
  try clear hcz11_3
  try clear hcz12_0
  try clear hcz12_1
  try clear hcz12_2
  try clear hcz12_3
  try clear hcz13_0
  try clear hcz13_1
  try clear hcz13_2
  try clear hcz13_3
  try clear hcz14_0
  try clear hcz14_1
  try clear hcz14_2
  try clear hcz14_3
  try clear hcz9_0
  try clear hcz9_1
  try clear hcz9_2
  try clear hcz9_3
  try clear hfz11_0
  try clear hfz11_1
  try clear hfz11_2
  try clear hfz11_3
  try clear hfz12_0
  try clear hfz12_1
  try clear hfz12_2
  try clear hfz12_3
  try clear hfz13_0
  try clear hfz13_1
  try clear hfz13_2
  try clear hfz13_3
  try clear hfz14_0
  try clear hfz14_1
  try clear hfz14_2
  try clear hfz14_3
  try clear hfz9_0
  try clear hfz9_1
  try clear hfz9_2
  try clear hfz9_3
  obtain ⟨kq, x38_1, rfl, HA, HJ1, BK101, HB⟩ := hcut
  cases kq with
  | zero => exact absurd HA.out (by simp [warp_Check.j0])
  | succ kj1 =>
   have H := HA.out
   clear HA
   simp only [warp_Check.j0] at H
   by_cases c15 : x38_1 = true
   ·subst c15
    have H1 : (some 15) = some r := by rw [if_pos rfl] at H; exact H
    clear H
    have H := H1
    clear H1
    obtain rfl := Option.some.inj H
    go_wp2
    go_ret
    exact ⟨by first | rfl | (simp [errW_none, errW_some] <;> rfl) | (simp [*, errW_none, errW_some] <;> rfl), by exact zb0 HB⟩
   ·replace c15 := Bool.eq_false_iff.mpr c15
    subst c15
    have H1 : (warp_Check.l0 kj1 l0_3 (l0_3.length : Int) 0) = some r := by rw [if_neg (show ¬ (false = true) by decide)] at H; exact H
    clear H
    have H := H1
    clear H1
    have H' := Aside0.mk H
    clear H
    obtain ⟨hcz16_0, hcz16_1, hcz16_2, hcz16_3, hfz16_0, hfz16_1, hfz16_2, hfz16_3⟩ := zq4 BK101
    go_wp2
    go_loopg [42] kj1 (fun kq v42 w' => ∃ (x42_2 : Int), v42 = .int .i64 x42_2 ∧ Aside0 (warp_Check.l0 kq l0_3 (l0_3.length : Int) x42_2 = some r) ∧ Aside0 (kq ≤ kj1) ∧ Aside0 (w'.heap[gb101]? = some (.cells #[.int .i64 a0_0, .int .i64 a0_1, .int .i64 a0_2, (.slice A0_3 l0_3.length c0_3)] 24 (0, 0))) ∧ Aside0 (Below w.heap.size w w'))
    case atStart => exact ⟨(0), (by first | rfl | (simp; done) | (simp [*]; done)), H', ⟨Nat.le_refl _⟩, ⟨by exact zk0 BK101⟩, ⟨by exact zb0 HB⟩⟩
    case round =>
     clear H'
     try clear c1
     try clear c2
     try clear p2
     try clear q4
     try clear c5
     try clear p6
     try clear c7
     try clear c8
     try clear c8b0
     try clear c10
     try clear c10b0
     try clear c15
     try clear hcz11_0
     try clear hcz11_1
     try clear hcz11_2
     try clear hcz11_3
     try clear hcz12_0
     try clear hcz12_1
     try clear hcz12_2
     try clear hcz12_3
     try clear hcz13_0
     try clear hcz13_1
     try clear hcz13_2
     try clear hcz13_3
     try clear hcz14_0
     try clear hcz14_1
     try clear hcz14_2
     try clear hcz14_3
     try clear hcz16_0
     try clear hcz16_1
     try clear hcz16_2
     try clear hcz16_3
     try clear hcz9_0
     try clear hcz9_1
     try clear hcz9_2
     try clear hcz9_3
     try clear hfz11_0
     try clear hfz11_1
     try clear hfz11_2
     try clear hfz11_3
     try clear hfz12_0
     try clear hfz12_1
     try clear hfz12_2
     try clear hfz12_3
     try clear hfz13_0
     try clear hfz13_1
     try clear hfz13_2
     try clear hfz13_3
     try clear hfz14_0
     try clear hfz14_1
     try clear hfz14_2
     try clear hfz14_3
     try clear hfz16_0
     try clear hfz16_1
     try clear hfz16_2
     try clear hfz16_3
     try clear hfz9_0
     try clear hfz9_1
     try clear hfz9_2
     try clear hfz9_3
     try clear p2
     try clear p6
     try clear q4
     obtain ⟨x42_2, rfl, HA, HK2, BK101, HB⟩ := hrel
     cases gk with
     | zero => exact absurd HA.out (by simp [warp_Check.l0])
     | succ k2 =>
      have H := HA.out
      clear HA
      simp only [warp_Check.l0] at H
      by_cases c17 : x42_2 < (l0_3.length : Int)
      ·rw [if_pos c17] at H
       have c17b0 : decide (x42_2 < (l0_3.length : Int)) = true := decide_eq_true c17
       clear c17
       by_cases c18 : 0 ≤ x42_2
       ·rw [if_pos c18] at H
        have c18b0 : decide (0 ≤ x42_2) = true := decide_eq_true c18
        clear c18
        by_cases c19 : x42_2 < (l0_3.length : Int)
        ·rw [if_pos c19] at H
         have c19b0 : decide (x42_2 < (l0_3.length : Int)) = true := decide_eq_true c19
         clear c19
         by_cases c20 : ((rd_T28 l0_3 x42_2).f0) < (-1048576)
         ·rw [if_pos c20] at H
          have c20b0 : decide (((rd_T28 l0_3 x42_2).f0) < (-1048576)) = true := decide_eq_true c20
          clear c20
          obtain rfl := Option.some.inj H
          have p104 : 0 ≤ (x42_2 : Int) := of_decide_eq_true (by first | (with_reducible assumption) | assumption)
          have q104 : x42_2 < (l0_3.length : Int) := of_decide_eq_true (by first | (with_reducible assumption) | assumption)
          obtain ⟨ad104, e104, hx104_0, hx104_1⟩ := at_T28 HR0_3.out x42_2 p104 q104
          cases e104
          replace hx104_0 := (HB.out.cell (World.block_lt_of_cell? w _ hx104_0)).trans hx104_0
          replace hx104_1 := (HB.out.cell (World.block_lt_of_cell? w _ hx104_1)).trans hx104_1
          replace p104 := eq_true p104
          replace q104 := eq_true q104
          go_wp2_with (first | ((with_reducible refine gate_dst (N := 5) rfl ?_); (try (refine gate_guard (by rfl) ?_; dsimp only)); refine box_event ?hg (N := 5) ?hd (cs := #[.int .i64 0, .int .i64 0]) (t := 28) ?hr ?_; (case hd => rfl); (case hg => rfl); (case hr => first | (go_simp; done) | (go_simp; rfl)); intro gb105 hg w21 hbox hb; have GW105 := zg HB hg; have GE105 := zg HB hg; have NB101_105 := zn BK101 hg; have NB105_101 := zn' BK101 hg; have n0_ := Aside0.mk (hbox); replace BK101 := zk BK101 hb; replace HB := zb HB hb; have BK105 := n0_; clear n0_; clear hb hbox hg; have hnb22 := NB105_101.out; have hnc22 := NB101_105.out; obtain ⟨hcz23_0, hcz23_1, hfz23_0, hfz23_1⟩ := zq2 BK105))
          go_ret
          exact ⟨by first | rfl | (simp [errW_none, errW_some] <;> rfl) | (simp [*, errW_none, errW_some] <;> rfl), by exact zbo HB GE105⟩
         ·rw [if_neg c20] at H
          have c20b0 : decide (((rd_T28 l0_3 x42_2).f0) < (-1048576)) = false := decide_eq_false c20
          clear c20
          by_cases c24 : ((rd_T28 l0_3 x42_2).f0) > 1048576
          ·rw [if_pos c24] at H
           have c24b0 : decide (1048576 < ((rd_T28 l0_3 x42_2).f0)) = true := decide_eq_true c24
           clear c24
           obtain rfl := Option.some.inj H
           have p104 : 0 ≤ (x42_2 : Int) := of_decide_eq_true (by first | (with_reducible assumption) | assumption)
           have q104 : x42_2 < (l0_3.length : Int) := of_decide_eq_true (by first | (with_reducible assumption) | assumption)
           obtain ⟨ad104, e104, hx104_0, hx104_1⟩ := at_T28 HR0_3.out x42_2 p104 q104
           cases e104
           replace hx104_0 := (HB.out.cell (World.block_lt_of_cell? w _ hx104_0)).trans hx104_0
           replace hx104_1 := (HB.out.cell (World.block_lt_of_cell? w _ hx104_1)).trans hx104_1
           replace p104 := eq_true p104
           replace q104 := eq_true q104
           go_wp2_with (first | ((with_reducible refine gate_dst (N := 5) rfl ?_); (try (refine gate_guard (by rfl) ?_; dsimp only)); refine box_event ?hg (N := 5) ?hd (cs := #[.int .i64 0, .int .i64 0]) (t := 28) ?hr ?_; (case hd => rfl); (case hg => rfl); (case hr => first | (go_simp; done) | (go_simp; rfl)); intro gb105 hg w25 hbox hb; have GW105 := zg HB hg; have GE105 := zg HB hg; have NB101_105 := zn BK101 hg; have NB105_101 := zn' BK101 hg; have n0_ := Aside0.mk (hbox); replace BK101 := zk BK101 hb; replace HB := zb HB hb; have BK105 := n0_; clear n0_; clear hb hbox hg; have hnb26 := NB105_101.out; have hnc26 := NB101_105.out; obtain ⟨hcz27_0, hcz27_1, hfz27_0, hfz27_1⟩ := zq2 BK105))
           go_ret
           exact ⟨by first | rfl | (simp [errW_none, errW_some] <;> rfl) | (simp [*, errW_none, errW_some] <;> rfl), by exact zbo HB GE105⟩
          ·rw [if_neg c24] at H
           have c24b0 : decide (1048576 < ((rd_T28 l0_3 x42_2).f0)) = false := decide_eq_false c24
           clear c24
           by_cases c28 : ((rd_T28 l0_3 x42_2).f1) < (-1048576)
           ·rw [if_pos c28] at H
            have c28b0 : decide (((rd_T28 l0_3 x42_2).f1) < (-1048576)) = true := decide_eq_true c28
            clear c28
            obtain rfl := Option.some.inj H
            have p104 : 0 ≤ (x42_2 : Int) := of_decide_eq_true (by first | (with_reducible assumption) | assumption)
            have q104 : x42_2 < (l0_3.length : Int) := of_decide_eq_true (by first | (with_reducible assumption) | assumption)
            obtain ⟨ad104, e104, hx104_0, hx104_1⟩ := at_T28 HR0_3.out x42_2 p104 q104
            cases e104
            replace hx104_0 := (HB.out.cell (World.block_lt_of_cell? w _ hx104_0)).trans hx104_0
            replace hx104_1 := (HB.out.cell (World.block_lt_of_cell? w _ hx104_1)).trans hx104_1
            replace p104 := eq_true p104
            replace q104 := eq_true q104
            go_wp2_with (first | ((with_reducible refine gate_dst (N := 5) rfl ?_); (try (refine gate_guard (by rfl) ?_; dsimp only)); refine box_event ?hg (N := 5) ?hd (cs := #[.int .i64 0, .int .i64 0]) (t := 28) ?hr ?_; (case hd => rfl); (case hg => rfl); (case hr => first | (go_simp; done) | (go_simp; rfl)); intro gb105 hg w29 hbox hb; have GW105 := zg HB hg; have GE105 := zg HB hg; have NB101_105 := zn BK101 hg; have NB105_101 := zn' BK101 hg; have n0_ := Aside0.mk (hbox); replace BK101 := zk BK101 hb; replace HB := zb HB hb; have BK105 := n0_; clear n0_; clear hb hbox hg; have hnb30 := NB105_101.out; have hnc30 := NB101_105.out; obtain ⟨hcz31_0, hcz31_1, hfz31_0, hfz31_1⟩ := zq2 BK105))
            go_ret
            exact ⟨by first | rfl | (simp [errW_none, errW_some] <;> rfl) | (simp [*, errW_none, errW_some] <;> rfl), by exact zbo HB GE105⟩
           ·rw [if_neg c28] at H
            have c28b0 : decide (((rd_T28 l0_3 x42_2).f1) < (-1048576)) = false := decide_eq_false c28
            clear c28
            by_cases c32 : ((rd_T28 l0_3 x42_2).f1) > 1048576
            ·rw [if_pos c32] at H
             have c32b0 : decide (1048576 < ((rd_T28 l0_3 x42_2).f1)) = true := decide_eq_true c32
             clear c32
             obtain rfl := Option.some.inj H
             have p104 : 0 ≤ (x42_2 : Int) := of_decide_eq_true (by first | (with_reducible assumption) | assumption)
             have q104 : x42_2 < (l0_3.length : Int) := of_decide_eq_true (by first | (with_reducible assumption) | assumption)
             obtain ⟨ad104, e104, hx104_0, hx104_1⟩ := at_T28 HR0_3.out x42_2 p104 q104
             cases e104
             replace hx104_0 := (HB.out.cell (World.block_lt_of_cell? w _ hx104_0)).trans hx104_0
             replace hx104_1 := (HB.out.cell (World.block_lt_of_cell? w _ hx104_1)).trans hx104_1
             replace p104 := eq_true p104
             replace q104 := eq_true q104
             go_wp2_with (first | ((with_reducible refine gate_dst (N := 5) rfl ?_); (try (refine gate_guard (by rfl) ?_; dsimp only)); refine box_event ?hg (N := 5) ?hd (cs := #[.int .i64 0, .int .i64 0]) (t := 28) ?hr ?_; (case hd => rfl); (case hg => rfl); (case hr => first | (go_simp; done) | (go_simp; rfl)); intro gb105 hg w33 hbox hb; have GW105 := zg HB hg; have GE105 := zg HB hg; have NB101_105 := zn BK101 hg; have NB105_101 := zn' BK101 hg; have n0_ := Aside0.mk (hbox); replace BK101 := zk BK101 hb; replace HB := zb HB hb; have BK105 := n0_; clear n0_; clear hb hbox hg; have hnb34 := NB105_101.out; have hnc34 := NB101_105.out; obtain ⟨hcz35_0, hcz35_1, hfz35_0, hfz35_1⟩ := zq2 BK105))
             go_ret
             exact ⟨by first | rfl | (simp [errW_none, errW_some] <;> rfl) | (simp [*, errW_none, errW_some] <;> rfl), by exact zbo HB GE105⟩
            ·rw [if_neg c32] at H
             have c32b0 : decide (1048576 < ((rd_T28 l0_3 x42_2).f1)) = false := decide_eq_false c32
             clear c32
             have H' := Aside0.mk H
             clear H
             have p104 : 0 ≤ (x42_2 : Int) := of_decide_eq_true (by first | (with_reducible assumption) | assumption)
             have q104 : x42_2 < (l0_3.length : Int) := of_decide_eq_true (by first | (with_reducible assumption) | assumption)
             obtain ⟨ad104, e104, hx104_0, hx104_1⟩ := at_T28 HR0_3.out x42_2 p104 q104
             cases e104
             replace hx104_0 := (HB.out.cell (World.block_lt_of_cell? w _ hx104_0)).trans hx104_0
             replace hx104_1 := (HB.out.cell (World.block_lt_of_cell? w _ hx104_1)).trans hx104_1
             replace p104 := eq_true p104
             replace q104 := eq_true q104
             go_wp2_with (first | ((with_reducible refine gate_dst (N := 5) rfl ?_); (try (refine gate_guard (by rfl) ?_; dsimp only)); refine box_event ?hg (N := 5) ?hd (cs := #[.int .i64 0, .int .i64 0]) (t := 28) ?hr ?_; (case hd => rfl); (case hg => rfl); (case hr => first | (go_simp; done) | (go_simp; rfl)); intro gb105 hg w36 hbox hb; have GW105 := zg HB hg; have GE105 := zg HB hg; have NB101_105 := zn BK101 hg; have NB105_101 := zn' BK101 hg; have n0_ := Aside0.mk (hbox); replace BK101 := zk BK101 hb; replace HB := zb HB hb; have BK105 := n0_; clear n0_; clear hb hbox hg; have hnb37 := NB105_101.out; have hnc37 := NB101_105.out; obtain ⟨hcz38_0, hcz38_1, hfz38_0, hfz38_1⟩ := zq2 BK105))
             go_roundg k2
             case measure => have := HJ1.out; have := HK2.out; omega
             case rel => exact ⟨(wrap64 (x42_2 + 1)), (by first | rfl | (simp; done) | (simp [*]; done)), H', ⟨by have := HJ1.out; have := HK2.out; omega⟩, ⟨by exact zf BK101 NB101_105⟩, ⟨by exact zbo HB GE105⟩⟩
        ·rw [if_neg c19] at H
         exact absurd H (by simp)
       ·rw [if_neg c18] at H
        exact absurd H (by simp)
      ·rw [if_neg c17] at H
       have c17b0 : decide (x42_2 < (l0_3.length : Int)) = false := decide_eq_false c17
       clear c17
       obtain rfl := Option.some.inj H
       go_wp2
       go_ret
       exact ⟨by first | rfl | (simp [errW_none, errW_some] <;> rfl) | (simp [*, errW_none, errW_some] <;> rfl), by exact zb0 HB⟩

/-! ### num_Clamp: function 49 -/
def num_Clamp.f (a0 : Int) (a1 : Int) (a2 : Int) : Option (Int) := some (mn a2 (mx a0 a1))
set_option maxHeartbeats 8000000 in
set_option maxRecDepth 100000 in
theorem num_Clamp.calls (a0 : Int) (a1 : Int) (a2 : Int) (r : Int) (w : World) (h : num_Clamp.f a0 a1 a2 = some r) :
  Calls Try.prog 49 #[.int .i64 a0, .int .i64 a1, .int .i64 a2] w fun e w' => e = .returned (.int .i64 r) ∧ Below w.heap.size w w' := by
 have HB := Aside0.mk (Below.refl w.heap.size w)
 have H : (some (mn a2 (mx a0 a1))) = some r := h
 clear h
 obtain ⟨ji4, hji4⟩ : ∃ j_ : Int, (mx a0 a1) = j_ := ⟨_, rfl⟩
 replace H : (some (mn a2 (ji4))) = some r := by first | (rw [hji4] at H; exact H) | (simp only [hji4] at H ⊢; exact H)
 have hji4_ : (if a0 < a1 then a1 else a0) = ji4 := hji4
 obtain ⟨ji5, hji5⟩ : ∃ j_ : Int, (mn a2 (ji4)) = j_ := ⟨_, rfl⟩
 replace H : (some ji5) = some r := by first | (rw [hji5] at H; exact H) | (simp only [hji5] at H ⊢; exact H)
 have hji5_ : (if (ji4) < a2 then (ji4) else a2) = ji5 := hji5
 obtain rfl := Option.some.inj H
 go_enter Try.func49, Try.ntmps49
 go_wp2
 go_ret
 exact ⟨by first | rfl | (simp [errW_none, errW_some] <;> rfl) | (simp only [← hji4, ← hji5]; first | rfl | (simp [errW_none, errW_some] <;> rfl)) | (simp [*, errW_none, errW_some] <;> rfl), by exact zb0 HB⟩

/-! ### warp_cell: function 65 -/
def warp_cell.f (a0 : Int) (a1 : Int) (a2 : Int) : Option (Int × Int) := (num_Clamp.f a0 0 (wrap64 ((wrap64 (a1 - 1)) * a2))).bind fun t111 => (if a2 = 0 then (none) else (some (mn (wrap64 (Int.tdiv t111 a2)) (wrap64 (a1 - 2)), wrap64 (t111 - (wrap64 ((mn (wrap64 (Int.tdiv t111 a2)) (wrap64 (a1 - 2))) * a2))))))
set_option maxHeartbeats 8000000 in
set_option maxRecDepth 100000 in
theorem warp_cell.calls (a0 : Int) (a1 : Int) (a2 : Int) (r1 : Int) (r2 : Int) (w : World) (h : warp_cell.f a0 a1 a2 = some (r1, r2)) :
  Calls Try.prog 65 #[.int .i64 a0, .int .i64 a1, .int .i64 a2] w fun e w' => e = .returned (.tuple #[.int .i64 r1, .int .i64 r2]) ∧ Below w.heap.size w w' := by
 have HB := Aside0.mk (Below.refl w.heap.size w)
 have H : ((num_Clamp.f a0 0 (wrap64 ((wrap64 (a1 - 1)) * a2))).bind fun t111 => (if a2 = 0 then (none) else (some (mn (wrap64 (Int.tdiv t111 a2)) (wrap64 (a1 - 2)), wrap64 (t111 - (wrap64 ((mn (wrap64 (Int.tdiv t111 a2)) (wrap64 (a1 - 2))) * a2))))))) = some (r1, r2) := h
 clear h
 replace H := Option.bind_eq_some_iff.mp H
 obtain ⟨t111, A40, H⟩ := H
 replace H : (if a2 = 0 then (none) else (some (mn (wrap64 (Int.tdiv t111 a2)) (wrap64 (a1 - 2)), wrap64 (t111 - (wrap64 ((mn (wrap64 (Int.tdiv t111 a2)) (wrap64 (a1 - 2))) * a2)))))) = some (r1, r2) := H
 have A4 := Aside0.mk A40
 clear A40
 by_cases c5 : a2 = 0
 ·rw [if_pos c5] at H
  exact absurd H (by simp)
 ·rw [if_neg c5] at H
  have c5b0 : (a2 == 0) = false := beq_eq_false_iff_ne.mpr c5
  have c5b1 : (a2 != 0) = true := bne_iff_ne.mpr c5
  obtain ⟨ji6, hji6⟩ : ∃ j_ : Int, (mn (wrap64 (Int.tdiv t111 a2)) (wrap64 (a1 - 2))) = j_ := ⟨_, rfl⟩
  replace H : (some (ji6, wrap64 (t111 - (wrap64 ((ji6) * a2))))) = some (r1, r2) := by first | (rw [hji6] at H; exact H) | (simp only [hji6] at H ⊢; exact H)
  (try rw [hji6] at A4)
  have hji6_ : (if (wrap64 (a1 - 2)) < (wrap64 (Int.tdiv t111 a2)) then (wrap64 (a1 - 2)) else (wrap64 (Int.tdiv t111 a2))) = ji6 := hji6
  simp only [Option.some.injEq, Prod.mk.injEq] at H
  obtain ⟨rfl, rfl⟩ := H
  go_enter Try.func65, Try.ntmps65
  go_wp2_with (first | ((with_reducible refine gate_callee (f := 49) rfl ?_); refine goesL_ (some 15) rfl rfl Try.func49 (by kernel_rfl) rfl #[.int .i64 a0, .int .i64 0, .int .i64 (wrap64 ((wrap64 (a1 - 1)) * a2))] rfl (by (try simp only [List.map_toArray, List.map_cons, List.map_nil]); first | done | rfl | (simp only [List.length_drop, List.length_take]; rfl)) ?_; (with_reducible refine (num_Clamp.calls a0 0 (wrap64 ((wrap64 (a1 - 1)) * a2)) t111 _ A4.out).mono ?_); rintro e w7 ⟨rfl, hb⟩; refine ⟨_, rfl, ?_⟩; replace HB := zb HB hb; (try clear hb); (try clear hb2); (try clear hk); (try clear hi)))
  go_ret2
  exact ⟨by first | rfl | (simp [errW_none, errW_some] <;> rfl) | (simp only [← hji6]; first | rfl | (simp [errW_none, errW_some] <;> rfl)) | (simp [*, errW_none, errW_some] <;> rfl), by exact zb0 HB⟩

/-! ### num_Floor: function 79 -/
def num_Floor.f (a0 : Int) (a1 : Int) : Option (Int) := if a1 = 0 then (some 0) else (if a1 = (-1) then (if a0 = (-9223372036854775808) then (some 9223372036854775807) else (some (wrap64 (-a0)))) else (if (Int.tmod a0 a1) = 0 then (some (wrap64 (Int.tdiv a0 a1))) else (if ((decide (a0 < 0)) != (decide (a1 < 0))) = true then (some (wrap64 ((wrap64 (Int.tdiv a0 a1)) - 1))) else (some (wrap64 (Int.tdiv a0 a1))))))
set_option maxHeartbeats 8000000 in
set_option maxRecDepth 100000 in
theorem num_Floor.calls (a0 : Int) (a1 : Int) (r : Int) (w : World) (h : num_Floor.f a0 a1 = some r) :
  Calls Try.prog 79 #[.int .i64 a0, .int .i64 a1] w fun e w' => e = .returned (.int .i64 r) ∧ Drawn0 w w' := by
 have H : (if a1 = 0 then (some 0) else (if a1 = (-1) then (if a0 = (-9223372036854775808) then (some 9223372036854775807) else (some (wrap64 (-a0)))) else (if (Int.tmod a0 a1) = 0 then (some (wrap64 (Int.tdiv a0 a1))) else (if ((decide (a0 < 0)) != (decide (a1 < 0))) = true then (some (wrap64 ((wrap64 (Int.tdiv a0 a1)) - 1))) else (some (wrap64 (Int.tdiv a0 a1))))))) = some r := h
 clear h
 by_cases c3 : a1 = 0
 ·rw [if_pos c3] at H
  have c3b0 : (a1 == 0) = true := beq_iff_eq.mpr c3
  have c3b1 : (a1 != 0) = false := bne_eq_false_iff_eq.mpr c3
  clear c3
  obtain rfl := Option.some.inj H
  go_enter Try.func79, Try.ntmps79
  go_wp2
  go_ret
  exact ⟨by first | rfl | (simp; done) | (simp [*]; done), by repeat (first | exact Drawn0.refl _ | apply Drawn0.step)⟩
 ·rw [if_neg c3] at H
  have c3b0 : (a1 == 0) = false := beq_eq_false_iff_ne.mpr c3
  have c3b1 : (a1 != 0) = true := bne_iff_ne.mpr c3
  by_cases c4 : a1 = (-1)
  ·rw [if_pos c4] at H
   have c4b0 : (a1 == (-1)) = true := beq_iff_eq.mpr c4
   have c4b1 : (a1 != (-1)) = false := bne_eq_false_iff_eq.mpr c4
   clear c4
   by_cases c5 : a0 = (-9223372036854775808)
   ·rw [if_pos c5] at H
    have c5b0 : (a0 == (-9223372036854775808)) = true := beq_iff_eq.mpr c5
    have c5b1 : (a0 != (-9223372036854775808)) = false := bne_eq_false_iff_eq.mpr c5
    clear c5
    obtain rfl := Option.some.inj H
    go_enter Try.func79, Try.ntmps79
    go_wp2
    go_ret
    exact ⟨by first | rfl | (simp; done) | (simp [*]; done), by repeat (first | exact Drawn0.refl _ | apply Drawn0.step)⟩
   ·rw [if_neg c5] at H
    have c5b0 : (a0 == (-9223372036854775808)) = false := beq_eq_false_iff_ne.mpr c5
    have c5b1 : (a0 != (-9223372036854775808)) = true := bne_iff_ne.mpr c5
    obtain rfl := Option.some.inj H
    go_enter Try.func79, Try.ntmps79
    go_wp2
    go_ret
    exact ⟨by first | rfl | (simp; done) | (simp [*]; done), by repeat (first | exact Drawn0.refl _ | apply Drawn0.step)⟩
  ·rw [if_neg c4] at H
   have c4b0 : (a1 == (-1)) = false := beq_eq_false_iff_ne.mpr c4
   have c4b1 : (a1 != (-1)) = true := bne_iff_ne.mpr c4
   by_cases c6 : (Int.tmod a0 a1) = 0
   ·rw [if_pos c6] at H
    have c6b0 : ((Int.tmod a0 a1) == 0) = true := beq_iff_eq.mpr c6
    have c6b1 : ((Int.tmod a0 a1) != 0) = false := bne_eq_false_iff_eq.mpr c6
    clear c6
    obtain rfl := Option.some.inj H
    go_enter Try.func79, Try.ntmps79
    go_wp2
    go_ret
    exact ⟨by first | rfl | (simp; done) | (simp [*]; done), by repeat (first | exact Drawn0.refl _ | apply Drawn0.step)⟩
   ·rw [if_neg c6] at H
    have c6b0 : ((Int.tmod a0 a1) == 0) = false := beq_eq_false_iff_ne.mpr c6
    have c6b1 : ((Int.tmod a0 a1) != 0) = true := bne_iff_ne.mpr c6
    by_cases c7 : ((decide (a0 < 0)) != (decide (a1 < 0))) = true
    ·rw [if_pos c7] at H
     have c7b0 : ((decide (a0 < 0)) != (decide (a1 < 0))) = true := c7
     (try (have c7b1 : decide ((decide (a0 < 0)) = (decide (a1 < 0))) = false := by simpa using c7))
     (try (have c7b2 : ((decide (a0 < 0)) == (decide (a1 < 0))) = false := by simpa using c7))
     (try (have c7b3 : ¬ ((decide (a0 < 0)) = (decide (a1 < 0))) := by simpa using c7))
     clear c7
     obtain rfl := Option.some.inj H
     go_enter Try.func79, Try.ntmps79
     go_wp2
     go_ret
     exact ⟨by first | rfl | (simp; done) | (simp [*]; done), by repeat (first | exact Drawn0.refl _ | apply Drawn0.step)⟩
    ·rw [if_neg c7] at H
     have c7b0 : ((decide (a0 < 0)) != (decide (a1 < 0))) = false := by simpa using c7
     (try (have c7b1 : decide ((decide (a0 < 0)) = (decide (a1 < 0))) = true := by simpa using c7))
     (try (have c7b2 : ((decide (a0 < 0)) == (decide (a1 < 0))) = true := by simpa using c7))
     clear c7
     obtain rfl := Option.some.inj H
     go_enter Try.func79, Try.ntmps79
     go_wp2
     go_ret
     exact ⟨by first | rfl | (simp; done) | (simp [*]; done), by repeat (first | exact Drawn0.refl _ | apply Drawn0.step)⟩

/-! ### num_Div: function 67 -/
def num_Div.j0 : Nat → Int → Int → Int → Bool → Option (Int)
 | 0, _, _, _, _ => none
 | k + 1, x0, x1, x5, x15 => if x15 = true then (some x5) else (if x1 > 0 then (if (wrap64 (x0 - (wrap64 (x5 * x1)))) ≥ (wrap64 (x1 - (wrap64 (x0 - (wrap64 (x5 * x1)))))) then (some (wrap64 (x5 + 1))) else (if x1 < 0 then (if (wrap64 (x0 - (wrap64 (x5 * x1)))) ≤ (wrap64 (x1 - (wrap64 (x0 - (wrap64 (x5 * x1)))))) then (some (wrap64 (x5 + 1))) else (some x5)) else (some x5))) else (if x1 < 0 then (if (wrap64 (x0 - (wrap64 (x5 * x1)))) ≤ (wrap64 (x1 - (wrap64 (x0 - (wrap64 (x5 * x1)))))) then (some (wrap64 (x5 + 1))) else (some x5)) else (some x5)))
def num_Div.f (k : Nat) (a0 : Int) (a1 : Int) : Option (Int) := (num_Floor.f a0 a1).bind fun t112 => (if a1 = 0 then (num_Div.j0 k a0 a1 t112 true) else (num_Div.j0 k a0 a1 t112 (a1 == (-1))))
theorem num_Div.mono_l : ∀ k, (∀ y0 y1 y2 y3, LeO (num_Div.j0 k y0 y1 y2 y3) (num_Div.j0 (k + 1) y0 y1 y2 y3))
 | 0 => fun _ _ _ _ r h => by simp [num_Div.j0] at h
 | k + 1 => by
  have ih0 := num_Div.mono_l k
  ·intro y0 y1 y2 y3
   unfold num_Div.j0
   repeat' first
   | (with_reducible exact ih0 _ _ _ _)
   | (with_reducible exact LeO.refl _)
   | (with_reducible exact LeO.none _)
   | (with_reducible refine LeO.ite ?_ ?_)
   | (with_reducible refine LeO.bind ?_ (fun _ => ?_))
   | exact ih0 _ _ _ _
   | exact LeO.none _
   | refine LeO.ite ?_ ?_
   | refine LeO.bind ?_ (fun _ => ?_)
theorem num_Div.mono : ∀ a0 a1 k, LeO (num_Div.f k a0 a1) (num_Div.f (k + 1) a0 a1) := by
 intro a0 a1 k
 have ih0 := num_Div.mono_l k
 unfold num_Div.f
 repeat' first
   | (with_reducible exact ih0 _ _ _ _)
   | (with_reducible exact LeO.refl _)
   | (with_reducible exact LeO.none _)
   | (with_reducible refine LeO.ite ?_ ?_)
   | (with_reducible refine LeO.bind ?_ (fun _ => ?_))
   | exact ih0 _ _ _ _
   | exact LeO.none _
   | refine LeO.ite ?_ ?_
   | refine LeO.bind ?_ (fun _ => ?_)
set_option maxHeartbeats 8000000 in
set_option maxRecDepth 100000 in
theorem num_Div.calls (k : Nat) (a0 : Int) (a1 : Int) (r : Int) (w : World) (h : num_Div.f k a0 a1 = some r) :
  Calls Try.prog 67 #[.int .i64 a0, .int .i64 a1] w fun e w' => e = .returned (.int .i64 r) ∧ Drawn0 w w' := by
 have H : ((num_Floor.f a0 a1).bind fun t112 => (if a1 = 0 then (num_Div.j0 k a0 a1 t112 true) else (num_Div.j0 k a0 a1 t112 (a1 == (-1))))) = some r := h
 clear h
 replace H := Option.bind_eq_some_iff.mp H
 obtain ⟨t112, A30, H⟩ := H
 replace H : (if a1 = 0 then (num_Div.j0 k a0 a1 t112 true) else (num_Div.j0 k a0 a1 t112 (a1 == (-1)))) = some r := H
 have A3 := Aside0.mk A30
 clear A30
 have HC4 := Aside0.mk H
 clear H
 go_enter Try.func67, Try.ntmps67
 go_upto_region 2 with (first | ((with_reducible refine gate_callee (f := 79) rfl ?_); refine goesL_ (some 9) rfl rfl Try.func79 (by kernel_rfl) rfl #[.int .i64 a0, .int .i64 a1] rfl (by (try simp only [List.map_toArray, List.map_cons, List.map_nil]); first | done | rfl | (simp only [List.length_drop, List.length_take]; rfl)) ?_; (with_reducible refine (num_Floor.calls a0 a1 t112 _ A3.out).mono ?_); rintro e w' ⟨rfl, ⟨nd, rfl⟩⟩; refine ⟨_, rfl, ?_⟩))
 (try simp only [Act.put, sA, sB, sC])
 go_cut [15] (fun v15 wc => ∃ (kq : Nat) (x15_3 : Bool), v15 = .bool x15_3 ∧ Aside0 (num_Div.j0 kq a0 a1 t112 x15_3 = some r) ∧ Aside0 (kq ≤ k) ∧ Drawn0 w wc)
 case first =>
  have H := HC4.out
  clear HC4
  by_cases c5 : a1 = 0
  ·rw [if_pos c5] at H
   have c5b0 : (a1 == 0) = true := beq_iff_eq.mpr c5
   have c5b1 : (a1 != 0) = false := bne_eq_false_iff_eq.mpr c5
   clear c5
   (first | rw [c5b0] | (simp only [i64_w, i32_w]; rw [c5b0]) | skip)
   have H' := Aside0.mk H
   clear H
   go_wp2
   go_meet
   case rel => exact ⟨_, (true), (by first | rfl | (simp; done) | (simp [*]; done)), H', ⟨by first | omega | exact Nat.le_refl _⟩, by repeat (first | exact Drawn0.refl _ | apply Drawn0.step)⟩
  ·rw [if_neg c5] at H
   have c5b0 : (a1 == 0) = false := beq_eq_false_iff_ne.mpr c5
   have c5b1 : (a1 != 0) = true := bne_iff_ne.mpr c5
   (first | rw [c5b0] | (simp only [i64_w, i32_w]; rw [c5b0]) | skip)
   have H' := Aside0.mk H
   clear H
   go_wp2
   go_meet
   case rel => exact ⟨_, ((a1 == (-1))), (by first | rfl | (simp; done) | (simp [*]; done)), H', ⟨by first | omega | exact Nat.le_refl _⟩, by repeat (first | exact Drawn0.refl _ | apply Drawn0.step)⟩
 case rest =>
  clear HC4
  try clear p2
  try clear c5
  try clear c5b0
  try clear c5b1
  obtain ⟨kq, x15_3, rfl, HA, HJ3, ⟨mc3, rfl⟩⟩ := hcut
  cases kq with
  | zero => exact absurd HA.out (by simp [num_Div.j0])
  | succ kj3 =>
   have H := HA.out
   clear HA
   simp only [num_Div.j0] at H
   by_cases c6 : x15_3 = true
   ·subst c6
    have H1 : (some t112) = some r := by rw [if_pos rfl] at H; exact H
    clear H
    have H := H1
    clear H1
    obtain rfl := Option.some.inj H
    go_wp2
    go_ret
    exact ⟨by first | rfl | (simp; done) | (simp [*]; done), by repeat (first | exact Drawn0.refl _ | apply Drawn0.step)⟩
   ·replace c6 := Bool.eq_false_iff.mpr c6
    subst c6
    have H1 : (if a1 > 0 then (if (wrap64 (a0 - (wrap64 (t112 * a1)))) ≥ (wrap64 (a1 - (wrap64 (a0 - (wrap64 (t112 * a1)))))) then (some (wrap64 (t112 + 1))) else (if a1 < 0 then (if (wrap64 (a0 - (wrap64 (t112 * a1)))) ≤ (wrap64 (a1 - (wrap64 (a0 - (wrap64 (t112 * a1)))))) then (some (wrap64 (t112 + 1))) else (some t112)) else (some t112))) else (if a1 < 0 then (if (wrap64 (a0 - (wrap64 (t112 * a1)))) ≤ (wrap64 (a1 - (wrap64 (a0 - (wrap64 (t112 * a1)))))) then (some (wrap64 (t112 + 1))) else (some t112)) else (some t112))) = some r := by rw [if_neg (show ¬ (false = true) by decide)] at H; exact H
    clear H
    have H := H1
    clear H1
    by_cases c7 : a1 > 0
    ·rw [if_pos c7] at H
     have c7b0 : decide (0 < a1) = true := decide_eq_true c7
     clear c7
     by_cases c8 : (wrap64 (a0 - (wrap64 (t112 * a1)))) ≥ (wrap64 (a1 - (wrap64 (a0 - (wrap64 (t112 * a1))))))
     ·rw [if_pos c8] at H
      have c8b0 : decide ((wrap64 (a1 - (wrap64 (a0 - (wrap64 (t112 * a1)))))) ≤ (wrap64 (a0 - (wrap64 (t112 * a1))))) = true := decide_eq_true c8
      clear c8
      obtain rfl := Option.some.inj H
      go_wp2
      go_ret
      exact ⟨by first | rfl | (simp; done) | (simp [*]; done), by repeat (first | exact Drawn0.refl _ | apply Drawn0.step)⟩
     ·rw [if_neg c8] at H
      have c8b0 : decide ((wrap64 (a1 - (wrap64 (a0 - (wrap64 (t112 * a1)))))) ≤ (wrap64 (a0 - (wrap64 (t112 * a1))))) = false := decide_eq_false c8
      clear c8
      by_cases c9 : a1 < 0
      ·rw [if_pos c9] at H
       have c9b0 : decide (a1 < 0) = true := decide_eq_true c9
       clear c9
       by_cases c10 : (wrap64 (a0 - (wrap64 (t112 * a1)))) ≤ (wrap64 (a1 - (wrap64 (a0 - (wrap64 (t112 * a1))))))
       ·rw [if_pos c10] at H
        have c10b0 : decide ((wrap64 (a0 - (wrap64 (t112 * a1)))) ≤ (wrap64 (a1 - (wrap64 (a0 - (wrap64 (t112 * a1))))))) = true := decide_eq_true c10
        clear c10
        obtain rfl := Option.some.inj H
        go_wp2
        go_ret
        exact ⟨by first | rfl | (simp; done) | (simp [*]; done), by repeat (first | exact Drawn0.refl _ | apply Drawn0.step)⟩
       ·rw [if_neg c10] at H
        have c10b0 : decide ((wrap64 (a0 - (wrap64 (t112 * a1)))) ≤ (wrap64 (a1 - (wrap64 (a0 - (wrap64 (t112 * a1))))))) = false := decide_eq_false c10
        clear c10
        obtain rfl := Option.some.inj H
        go_wp2
        go_ret
        exact ⟨by first | rfl | (simp; done) | (simp [*]; done), by repeat (first | exact Drawn0.refl _ | apply Drawn0.step)⟩
      ·rw [if_neg c9] at H
       have c9b0 : decide (a1 < 0) = false := decide_eq_false c9
       clear c9
       obtain rfl := Option.some.inj H
       go_wp2
       go_ret
       exact ⟨by first | rfl | (simp; done) | (simp [*]; done), by repeat (first | exact Drawn0.refl _ | apply Drawn0.step)⟩
    ·rw [if_neg c7] at H
     have c7b0 : decide (0 < a1) = false := decide_eq_false c7
     clear c7
     by_cases c11 : a1 < 0
     ·rw [if_pos c11] at H
      have c11b0 : decide (a1 < 0) = true := decide_eq_true c11
      clear c11
      by_cases c12 : (wrap64 (a0 - (wrap64 (t112 * a1)))) ≤ (wrap64 (a1 - (wrap64 (a0 - (wrap64 (t112 * a1))))))
      ·rw [if_pos c12] at H
       have c12b0 : decide ((wrap64 (a0 - (wrap64 (t112 * a1)))) ≤ (wrap64 (a1 - (wrap64 (a0 - (wrap64 (t112 * a1))))))) = true := decide_eq_true c12
       clear c12
       obtain rfl := Option.some.inj H
       go_wp2
       go_ret
       exact ⟨by first | rfl | (simp; done) | (simp [*]; done), by repeat (first | exact Drawn0.refl _ | apply Drawn0.step)⟩
      ·rw [if_neg c12] at H
       have c12b0 : decide ((wrap64 (a0 - (wrap64 (t112 * a1)))) ≤ (wrap64 (a1 - (wrap64 (a0 - (wrap64 (t112 * a1))))))) = false := decide_eq_false c12
       clear c12
       obtain rfl := Option.some.inj H
       go_wp2
       go_ret
       exact ⟨by first | rfl | (simp; done) | (simp [*]; done), by repeat (first | exact Drawn0.refl _ | apply Drawn0.step)⟩
     ·rw [if_neg c11] at H
      have c11b0 : decide (a1 < 0) = false := decide_eq_false c11
      clear c11
      obtain rfl := Option.some.inj H
      go_wp2
      go_ret
      exact ⟨by first | rfl | (simp; done) | (simp [*]; done), by repeat (first | exact Drawn0.refl _ | apply Drawn0.step)⟩

/-! ### warp_at_1: function 66 -/
def warp_at_1.f (k : Nat) (a0 : Int) (a1 : Int) (a2 : Int) (a3 : Int) (a4_0 : Int) (a5_0 : Int) (a6_0 : Int) : Option (Int) := (num_Div.f k (wrap64 ((wrap64 ((wrap64 ((wrap64 ((wrap64 ((wrap64 (a4_0 - a5_0)) * (wrap64 (a4_0 - a6_0)))) * a0)) + (wrap64 ((wrap64 (a5_0 * (wrap64 (a4_0 - a6_0)))) * a1)))) + (wrap64 ((wrap64 ((wrap64 (a4_0 - a5_0)) * a6_0)) * a2)))) + (wrap64 ((wrap64 (a5_0 * a6_0)) * a3)))) (wrap64 (a4_0 * a4_0))).bind fun t116 => (some t116)
theorem warp_at_1.mono : ∀ a0 a1 a2 a3 a4 a5 a6 k, LeO (warp_at_1.f k a0 a1 a2 a3 a4 a5 a6) (warp_at_1.f (k + 1) a0 a1 a2 a3 a4 a5 a6) := by
 intro a0 a1 a2 a3 a4 a5 a6 k
 unfold warp_at_1.f
 repeat' first
   | (with_reducible exact num_Div.mono _ _ _)
   | (with_reducible exact LeO.refl _)
   | (with_reducible exact LeO.none _)
   | (with_reducible refine LeO.ite ?_ ?_)
   | (with_reducible refine LeO.bind ?_ (fun _ => ?_))
   | exact num_Div.mono _ _ _
   | exact LeO.none _
   | refine LeO.ite ?_ ?_
   | refine LeO.bind ?_ (fun _ => ?_)
set_option maxHeartbeats 8000000 in
set_option maxRecDepth 100000 in
theorem warp_at_1.calls (k : Nat) (a0 : Int) (a1 : Int) (a2 : Int) (a3 : Int) (gc4_0 : Nat) (a4_0 : Int) (gc5_0 : Nat) (a5_0 : Int) (gc6_0 : Nat) (a6_0 : Int) (r : Int) (w : World) (hp4_0 : w.heap[gc4_0]? = some (.cells #[.int .i64 a4_0] 3 (0, 0))) (hp5_0 : w.heap[gc5_0]? = some (.cells #[.int .i64 a5_0] 3 (0, 0))) (hp6_0 : w.heap[gc6_0]? = some (.cells #[.int .i64 a6_0] 3 (0, 0))) (h : warp_at_1.f k a0 a1 a2 a3 a4_0 a5_0 a6_0 = some r) :
  Calls Try.prog 66 #[.int .i64 a0, .int .i64 a1, .int .i64 a2, .int .i64 a3, .pointer (some ⟨gc4_0, 0, none⟩), .pointer (some ⟨gc5_0, 0, none⟩), .pointer (some ⟨gc6_0, 0, none⟩)] w fun e w' => e = .returned (.int .i64 r) ∧ Below w.heap.size w w' := by
 have BK113 := Aside0.mk hp4_0
 have GL113 := Aside0.mk (show gc4_0 < w.heap.size from blk_lt hp4_0)
 clear hp4_0
 have BK114 := Aside0.mk hp5_0
 have GL114 := Aside0.mk (show gc5_0 < w.heap.size from blk_lt hp5_0)
 clear hp5_0
 have BK115 := Aside0.mk hp6_0
 have GL115 := Aside0.mk (show gc6_0 < w.heap.size from blk_lt hp6_0)
 clear hp6_0
 have HB := Aside0.mk (Below.refl w.heap.size w)
 have H : ((num_Div.f k (wrap64 ((wrap64 ((wrap64 ((wrap64 ((wrap64 ((wrap64 (a4_0 - a5_0)) * (wrap64 (a4_0 - a6_0)))) * a0)) + (wrap64 ((wrap64 (a5_0 * (wrap64 (a4_0 - a6_0)))) * a1)))) + (wrap64 ((wrap64 ((wrap64 (a4_0 - a5_0)) * a6_0)) * a2)))) + (wrap64 ((wrap64 (a5_0 * a6_0)) * a3)))) (wrap64 (a4_0 * a4_0))).bind fun t116 => (some t116)) = some r := h
 clear h
 replace H := Option.bind_eq_some_iff.mp H
 obtain ⟨t116, A80, H⟩ := H
 replace H : (some t116) = some r := H
 have A8 := Aside0.mk A80
 clear A80
 obtain rfl := Option.some.inj H
 obtain ⟨hcz9_0, hfz9_0⟩ := zq1 BK113
 obtain ⟨hcz10_0, hfz10_0⟩ := zq1 BK114
 obtain ⟨hcz11_0, hfz11_0⟩ := zq1 BK115
 go_enter Try.func66, Try.ntmps66
 go_wp2_with (first | ((with_reducible refine gate_callee (f := 67) rfl ?_); refine goesL_ (some 46) rfl rfl Try.func67 (by kernel_rfl) rfl #[.int .i64 (wrap64 ((wrap64 ((wrap64 ((wrap64 ((wrap64 ((wrap64 (a4_0 - a5_0)) * (wrap64 (a4_0 - a6_0)))) * a0)) + (wrap64 ((wrap64 (a5_0 * (wrap64 (a4_0 - a6_0)))) * a1)))) + (wrap64 ((wrap64 ((wrap64 (a4_0 - a5_0)) * a6_0)) * a2)))) + (wrap64 ((wrap64 (a5_0 * a6_0)) * a3)))), .int .i64 (wrap64 (a4_0 * a4_0))] rfl (by (try simp only [List.map_toArray, List.map_cons, List.map_nil]); first | done | rfl | (simp only [List.length_drop, List.length_take]; rfl)) ?_; (with_reducible refine (num_Div.calls k (wrap64 ((wrap64 ((wrap64 ((wrap64 ((wrap64 ((wrap64 (a4_0 - a5_0)) * (wrap64 (a4_0 - a6_0)))) * a0)) + (wrap64 ((wrap64 (a5_0 * (wrap64 (a4_0 - a6_0)))) * a1)))) + (wrap64 ((wrap64 ((wrap64 (a4_0 - a5_0)) * a6_0)) * a2)))) + (wrap64 ((wrap64 (a5_0 * a6_0)) * a3)))) (wrap64 (a4_0 * a4_0)) t116 _ A8.out).mono ?_); rintro e w' ⟨rfl, ⟨nd, rfl⟩⟩; refine ⟨_, rfl, ?_⟩))
 go_ret
 exact ⟨by first | rfl | (simp [errW_none, errW_some] <;> rfl) | (simp [*, errW_none, errW_some] <;> rfl), by exact zb0 HB⟩

end Go.Proofs.Ytnfbabmceddciaa.G
