/- Contracts of functions of the program, each as it is called: what it computes (.f), that it computes no less with more rounds (.mono), and that a call returns just that (.calls). No conditions but those that each contract names. Written by a program of this session (wip/gx.py over the kit's print). -/
import Derived.Test.YtnfbabmceddciaaG0
import Derived.Test.YtnfbabmceddciaaG1
namespace Go.Proofs.Ytnfbabmceddciaa.G
open Go.RowKit Go.Proofs.YtnfbabmceddciaaW.PrintWords Go.Proofs.YtnfbabmceddciaaW.PrintLast Go.Proofs.YtnfbabmceddciaaW.PrintMore
attribute [local go_sem] max2_int min2_int max_two min_two max_three min_three max_four min_four max_five min_five   -- for this text's walks alone
set_option linter.unusedVariables false
set_option linter.unusedSimpArgs false


/-! ### warp_at: function 29 -/
def warp_at.f (k : Nat) (a0_0 : Int) (a0_1 : Int) (a0_2 : Int) (l0_3 : List (S28)) (a1 : Int) (a2 : Int) : Option (Int × Int) := (warp_cell.f a1 a0_0 a0_2).bind fun G8 => ((warp_cell.f a2 a0_1 a0_2).bind fun G9 => (if 0 ≤ (wrap64 ((wrap64 (G9.1 * a0_0)) + G8.1)) then (if (wrap64 ((wrap64 (G9.1 * a0_0)) + G8.1)) < (l0_3.length : Int) then (if 0 ≤ (wrap64 ((wrap64 ((wrap64 (G9.1 * a0_0)) + G8.1)) + 1)) then (if (wrap64 ((wrap64 ((wrap64 (G9.1 * a0_0)) + G8.1)) + 1)) < (l0_3.length : Int) then (if 0 ≤ (wrap64 ((wrap64 ((wrap64 (G9.1 + 1)) * a0_0)) + G8.1)) then (if (wrap64 ((wrap64 ((wrap64 (G9.1 + 1)) * a0_0)) + G8.1)) < (l0_3.length : Int) then (if 0 ≤ (wrap64 ((wrap64 ((wrap64 ((wrap64 (G9.1 + 1)) * a0_0)) + G8.1)) + 1)) then (if (wrap64 ((wrap64 ((wrap64 ((wrap64 (G9.1 + 1)) * a0_0)) + G8.1)) + 1)) < (l0_3.length : Int) then ((warp_at_1.f k ((rd_T28 l0_3 (wrap64 ((wrap64 (G9.1 * a0_0)) + G8.1))).f0) ((rd_T28 l0_3 (wrap64 ((wrap64 ((wrap64 (G9.1 * a0_0)) + G8.1)) + 1))).f0) ((rd_T28 l0_3 (wrap64 ((wrap64 ((wrap64 (G9.1 + 1)) * a0_0)) + G8.1))).f0) ((rd_T28 l0_3 (wrap64 ((wrap64 ((wrap64 ((wrap64 (G9.1 + 1)) * a0_0)) + G8.1)) + 1))).f0) a0_2 G8.2 G9.2).bind fun t134 => ((warp_at_1.f k ((rd_T28 l0_3 (wrap64 ((wrap64 (G9.1 * a0_0)) + G8.1))).f1) ((rd_T28 l0_3 (wrap64 ((wrap64 ((wrap64 (G9.1 * a0_0)) + G8.1)) + 1))).f1) ((rd_T28 l0_3 (wrap64 ((wrap64 ((wrap64 (G9.1 + 1)) * a0_0)) + G8.1))).f1) ((rd_T28 l0_3 (wrap64 ((wrap64 ((wrap64 ((wrap64 (G9.1 + 1)) * a0_0)) + G8.1)) + 1))).f1) a0_2 G8.2 G9.2).bind fun t135 => (some (t134, t135)))) else (none)) else (none)) else (none)) else (none)) else (none)) else (none)) else (none)) else (none)))
theorem warp_at.mono : ∀ a0 a1 a2 a3 a4 a5 k, LeO (warp_at.f k a0 a1 a2 a3 a4 a5) (warp_at.f (k + 1) a0 a1 a2 a3 a4 a5) := by
 intro a0 a1 a2 a3 a4 a5 k
 unfold warp_at.f
 repeat' first
   | (with_reducible exact warp_at_1.mono _ _ _ _ _ _ _ _)
   | (with_reducible exact LeO.refl _)
   | (with_reducible exact LeO.none _)
   | (with_reducible refine LeO.ite ?_ ?_)
   | (with_reducible refine LeO.bind ?_ (fun _ => ?_))
   | exact warp_at_1.mono _ _ _ _ _ _ _ _
   | exact LeO.none _
   | refine LeO.ite ?_ ?_
   | refine LeO.bind ?_ (fun _ => ?_)
def warp_at.T3 : Bool × List (List Nat × List Nat) := (true, [([], []), ([0], [0]), ([], []), ([], []), ([3], [3]), ([2, 4], [2, 4]), ([], []), ([5, 6], [5, 6]), ([1, 7], [1, 7]), ([8], [8]), ([], []), ([10], [10]), ([], []), ([], []), ([13], [13]), ([12, 14], [12, 14]), ([], []), ([15, 16], [15, 16]), ([17], [17]), ([11, 18], [11, 18]), ([19], [19]), ([], []), ([], []), ([21, 9, 0, 1, 2, 3, 4, 5, 6, 7, 8, 9, 21, 22], [9, 21]), ([22, 20, 23, 0, 1, 2, 3, 4, 5, 6, 7, 8, 9, 10, 11, 12, 13, 14, 15, 16, 17, 18, 19, 20, 21, 22, 23], [20, 22])])
def warp_at.B3 : List Nat := [0, 1, 0, 0, 8, 28, 0, 124, 255, 511, 0, 1024, 0, 0, 8192, 28672, 0, 126976, 258048, 523264, 1047552, 0, 0, 6292479, 16777215]
theorem warp_at.tab3 : rtab .any (opsOf Try.f29 3) = warp_at.T3 := by kernel_rfl
theorem warp_at.bits3 : waitsOk warp_at.T3.2 warp_at.B3 = true := by kernel_rfl
def warp_at.T4 : Bool × List (List Nat × List Nat) := (true, [([], []), ([0], [0]), ([], []), ([2], [2]), ([], []), ([4], [4]), ([3, 5], [3, 5]), ([], []), ([6, 7], [6, 7]), ([1, 8], [1, 8]), ([9], [9]), ([], []), ([11], [11]), ([], []), ([13], [13]), ([], []), ([15], [15]), ([14, 16], [14, 16]), ([], []), ([17, 18], [17, 18]), ([19], [19]), ([12, 20], [12, 20]), ([21], [21]), ([], []), ([], []), ([23, 10, 0, 1, 2, 3, 4, 5, 6, 7, 8, 9, 10, 23, 24], [10, 23]), ([24, 22, 25, 0, 1, 2, 3, 4, 5, 6, 7, 8, 9, 10, 11, 12, 13, 14, 15, 16, 17, 18, 19, 20, 21, 22, 23, 24, 25], [22, 24])])
def warp_at.B4 : List Nat := [0, 1, 0, 4, 0, 16, 60, 0, 252, 511, 1023, 0, 2048, 0, 8192, 0, 32768, 122880, 0, 516096, 1040384, 2095104, 4192256, 0, 0, 25167871, 67108863]
theorem warp_at.tab4 : rtab .any (opsOf Try.f29 4) = warp_at.T4 := by kernel_rfl
theorem warp_at.bits4 : waitsOk warp_at.T4.2 warp_at.B4 = true := by kernel_rfl
def warp_at.T7 : Bool × List (List Nat × List Nat) := (true, [([], []), ([], []), ([1], [1]), ([], []), ([3], [3]), ([], []), ([5], [5]), ([], []), ([7], [7]), ([0, 2, 4, 6, 8], [0, 2, 4, 6, 8]), ([], []), ([], []), ([11], [11]), ([], []), ([13], [13]), ([], []), ([15], [15]), ([], []), ([17], [17]), ([10, 12, 14, 16, 18, 9], [10, 12, 14, 16, 18]), ([9, 19], [9, 19]), ([20, 19, 0, 1, 2, 3, 4, 5, 6, 7, 8, 9, 10, 11, 12, 13, 14, 15, 16, 17, 18, 19, 20], [20])])
def warp_at.B7 : List Nat := [0, 0, 2, 0, 8, 0, 32, 0, 128, 511, 0, 0, 2048, 0, 8192, 0, 32768, 0, 131072, 524287, 1048575, 2097151]
theorem warp_at.tab7 : rtab .any (opsOf Try.f29 7) = warp_at.T7 := by kernel_rfl
theorem warp_at.bits7 : waitsOk warp_at.T7.2 warp_at.B7 = true := by kernel_rfl
set_option maxHeartbeats 8000000 in
set_option maxRecDepth 100000 in
theorem warp_at.calls (k : Nat) (a0_0 : Int) (a0_1 : Int) (a0_2 : Int) (A0_3 : Option Addr) (c0_3 : Nat) (l0_3 : List (S28)) (a1 : Int) (a2 : Int) (r1 : Int) (r2 : Int) (w : World) (hr0_3 : Kd.C k28 w A0_3 l0_3.length l0_3) (hc0_3 : l0_3.length ≤ c0_3) (h : warp_at.f k a0_0 a0_1 a0_2 l0_3 a1 a2 = some (r1, r2)) :
  Calls Try.prog 29 #[.agg #[.int .i64 a0_0, .int .i64 a0_1, .int .i64 a0_2, .slice A0_3 l0_3.length c0_3], .int .i64 a1, .int .i64 a2] w fun e w' => e = .returned (.agg #[.int .i64 r1, .int .i64 r2]) ∧ Below w.heap.size w w' := by
 have hu24 := Try.underlying24
 have hu28 := Try.underlying28
 have E0r := Aside0.mk hr0_3
 have E1b := Aside0.mk hc0_3
 clear hr0_3 hc0_3
 have HB := Aside0.mk (Below.refl w.heap.size w)
 have H : ((warp_cell.f a1 a0_0 a0_2).bind fun G8 => ((warp_cell.f a2 a0_1 a0_2).bind fun G9 => (if 0 ≤ (wrap64 ((wrap64 (G9.1 * a0_0)) + G8.1)) then (if (wrap64 ((wrap64 (G9.1 * a0_0)) + G8.1)) < (l0_3.length : Int) then (if 0 ≤ (wrap64 ((wrap64 ((wrap64 (G9.1 * a0_0)) + G8.1)) + 1)) then (if (wrap64 ((wrap64 ((wrap64 (G9.1 * a0_0)) + G8.1)) + 1)) < (l0_3.length : Int) then (if 0 ≤ (wrap64 ((wrap64 ((wrap64 (G9.1 + 1)) * a0_0)) + G8.1)) then (if (wrap64 ((wrap64 ((wrap64 (G9.1 + 1)) * a0_0)) + G8.1)) < (l0_3.length : Int) then (if 0 ≤ (wrap64 ((wrap64 ((wrap64 ((wrap64 (G9.1 + 1)) * a0_0)) + G8.1)) + 1)) then (if (wrap64 ((wrap64 ((wrap64 ((wrap64 (G9.1 + 1)) * a0_0)) + G8.1)) + 1)) < (l0_3.length : Int) then ((warp_at_1.f k ((rd_T28 l0_3 (wrap64 ((wrap64 (G9.1 * a0_0)) + G8.1))).f0) ((rd_T28 l0_3 (wrap64 ((wrap64 ((wrap64 (G9.1 * a0_0)) + G8.1)) + 1))).f0) ((rd_T28 l0_3 (wrap64 ((wrap64 ((wrap64 (G9.1 + 1)) * a0_0)) + G8.1))).f0) ((rd_T28 l0_3 (wrap64 ((wrap64 ((wrap64 ((wrap64 (G9.1 + 1)) * a0_0)) + G8.1)) + 1))).f0) a0_2 G8.2 G9.2).bind fun t134 => ((warp_at_1.f k ((rd_T28 l0_3 (wrap64 ((wrap64 (G9.1 * a0_0)) + G8.1))).f1) ((rd_T28 l0_3 (wrap64 ((wrap64 ((wrap64 (G9.1 * a0_0)) + G8.1)) + 1))).f1) ((rd_T28 l0_3 (wrap64 ((wrap64 ((wrap64 (G9.1 + 1)) * a0_0)) + G8.1))).f1) ((rd_T28 l0_3 (wrap64 ((wrap64 ((wrap64 ((wrap64 (G9.1 + 1)) * a0_0)) + G8.1)) + 1))).f1) a0_2 G8.2 G9.2).bind fun t135 => (some (t134, t135)))) else (none)) else (none)) else (none)) else (none)) else (none)) else (none)) else (none)) else (none)))) = some (r1, r2) := h
 clear h
 replace H := Option.bind_eq_some_iff.mp H
 obtain ⟨⟨t119, t120⟩, A40, H⟩ := H
 try dsimp only at H
 have A4 := Aside0.mk A40
 clear A40
 replace H := Option.bind_eq_some_iff.mp H
 obtain ⟨⟨t122, t123⟩, A50, H⟩ := H
 try dsimp only at H
 have A5 := Aside0.mk A50
 clear A50
 obtain ⟨E3, Q1⟩ : ∃ j_ : Int, (wrap64 ((wrap64 (t122 * a0_0)) + t119)) = j_ := ⟨_, rfl⟩
 replace H : (if 0 ≤ (E3) then (if (E3) < (l0_3.length : Int) then (if 0 ≤ (wrap64 ((E3) + 1)) then (if (wrap64 ((E3) + 1)) < (l0_3.length : Int) then (if 0 ≤ (wrap64 ((wrap64 ((wrap64 (t122 + 1)) * a0_0)) + t119)) then (if (wrap64 ((wrap64 ((wrap64 (t122 + 1)) * a0_0)) + t119)) < (l0_3.length : Int) then (if 0 ≤ (wrap64 ((wrap64 ((wrap64 ((wrap64 (t122 + 1)) * a0_0)) + t119)) + 1)) then (if (wrap64 ((wrap64 ((wrap64 ((wrap64 (t122 + 1)) * a0_0)) + t119)) + 1)) < (l0_3.length : Int) then ((warp_at_1.f k ((rd_T28 l0_3 (E3)).f0) ((rd_T28 l0_3 (wrap64 ((E3) + 1))).f0) ((rd_T28 l0_3 (wrap64 ((wrap64 ((wrap64 (t122 + 1)) * a0_0)) + t119))).f0) ((rd_T28 l0_3 (wrap64 ((wrap64 ((wrap64 ((wrap64 (t122 + 1)) * a0_0)) + t119)) + 1))).f0) a0_2 t120 t123).bind fun t134 => ((warp_at_1.f k ((rd_T28 l0_3 (E3)).f1) ((rd_T28 l0_3 (wrap64 ((E3) + 1))).f1) ((rd_T28 l0_3 (wrap64 ((wrap64 ((wrap64 (t122 + 1)) * a0_0)) + t119))).f1) ((rd_T28 l0_3 (wrap64 ((wrap64 ((wrap64 ((wrap64 (t122 + 1)) * a0_0)) + t119)) + 1))).f1) a0_2 t120 t123).bind fun t135 => (some (t134, t135)))) else (none)) else (none)) else (none)) else (none)) else (none)) else (none)) else (none)) else (none)) = some (r1, r2) := by first | (rw [Q1] at H; exact H) | (simp only [Q1] at H ⊢; exact H)
 (try rw [Q1] at A4)
 (try rw [Q1] at A5)
 have E1c : (IntKind.i64.wrap ((wrap64 (t122 * a0_0)) + t119)) = E3 := (i64_w _).trans Q1
 by_cases c7 : 0 ≤ (E3)
 rotate_left
 ·rw [if_neg c7] at H
  exact absurd H (by simp)

 rw [if_pos c7] at H
 have E1d : decide (0 ≤ (E3)) = true := decide_eq_true c7
 clear c7
 by_cases c8 : (E3) < (l0_3.length : Int)
 rotate_left
 ·rw [if_neg c8] at H
  exact absurd H (by simp)
 rw [if_pos c8] at H
 have E1e : decide ((E3) < (l0_3.length : Int)) = true := decide_eq_true c8
 clear c8
 obtain ⟨E7, Q2⟩ : ∃ j_ : Int, (wrap64 ((E3) + 1)) = j_ := ⟨_, rfl⟩
 replace H : (if 0 ≤ (E7) then (if (E7) < (l0_3.length : Int) then (if 0 ≤ (wrap64 ((wrap64 ((wrap64 (t122 + 1)) * a0_0)) + t119)) then (if (wrap64 ((wrap64 ((wrap64 (t122 + 1)) * a0_0)) + t119)) < (l0_3.length : Int) then (if 0 ≤ (wrap64 ((wrap64 ((wrap64 ((wrap64 (t122 + 1)) * a0_0)) + t119)) + 1)) then (if (wrap64 ((wrap64 ((wrap64 ((wrap64 (t122 + 1)) * a0_0)) + t119)) + 1)) < (l0_3.length : Int) then ((warp_at_1.f k ((rd_T28 l0_3 (E3)).f0) ((rd_T28 l0_3 (E7)).f0) ((rd_T28 l0_3 (wrap64 ((wrap64 ((wrap64 (t122 + 1)) * a0_0)) + t119))).f0) ((rd_T28 l0_3 (wrap64 ((wrap64 ((wrap64 ((wrap64 (t122 + 1)) * a0_0)) + t119)) + 1))).f0) a0_2 t120 t123).bind fun t134 => ((warp_at_1.f k ((rd_T28 l0_3 (E3)).f1) ((rd_T28 l0_3 (E7)).f1) ((rd_T28 l0_3 (wrap64 ((wrap64 ((wrap64 (t122 + 1)) * a0_0)) + t119))).f1) ((rd_T28 l0_3 (wrap64 ((wrap64 ((wrap64 ((wrap64 (t122 + 1)) * a0_0)) + t119)) + 1))).f1) a0_2 t120 t123).bind fun t135 => (some (t134, t135)))) else (none)) else (none)) else (none)) else (none)) else (none)) else (none)) = some (r1, r2) := by first | (rw [Q2] at H; exact H) | (simp only [Q2] at H ⊢; exact H)
 (try rw [Q2] at A4)
 (try rw [Q2] at A5)
 have E1f : (IntKind.i64.wrap ((E3) + 1)) = E7 := (i64_w _).trans Q2
 by_cases c10 : 0 ≤ (E7)
 rotate_left
 ·rw [if_neg c10] at H
  exact absurd H (by simp)
 rw [if_pos c10] at H
 have E1g : decide (0 ≤ (E7)) = true := decide_eq_true c10
 clear c10
 by_cases c11 : (E7) < (l0_3.length : Int)
 rotate_left
 ·rw [if_neg c11] at H
  exact absurd H (by simp)
 rw [if_pos c11] at H
 have E1h : decide ((E7) < (l0_3.length : Int)) = true := decide_eq_true c11
 clear c11
 obtain ⟨G1, Q3⟩ : ∃ j_ : Int, (wrap64 ((wrap64 ((wrap64 (t122 + 1)) * a0_0)) + t119)) = j_ := ⟨_, rfl⟩
 replace H : (if 0 ≤ (G1) then (if (G1) < (l0_3.length : Int) then (if 0 ≤ (wrap64 ((G1) + 1)) then (if (wrap64 ((G1) + 1)) < (l0_3.length : Int) then ((warp_at_1.f k ((rd_T28 l0_3 (E3)).f0) ((rd_T28 l0_3 (E7)).f0) ((rd_T28 l0_3 (G1)).f0) ((rd_T28 l0_3 (wrap64 ((G1) + 1))).f0) a0_2 t120 t123).bind fun t134 => ((warp_at_1.f k ((rd_T28 l0_3 (E3)).f1) ((rd_T28 l0_3 (E7)).f1) ((rd_T28 l0_3 (G1)).f1) ((rd_T28 l0_3 (wrap64 ((G1) + 1))).f1) a0_2 t120 t123).bind fun t135 => (some (t134, t135)))) else (none)) else (none)) else (none)) else (none)) = some (r1, r2) := by first | (rw [Q3] at H; exact H) | (simp only [Q3] at H ⊢; exact H)
 (try rw [Q3] at A4)
 (try rw [Q3] at A5)
 have E1i : (IntKind.i64.wrap ((wrap64 ((wrap64 (t122 + 1)) * a0_0)) + t119)) = G1 := (i64_w _).trans Q3
 by_cases c13 : 0 ≤ (G1)
 rotate_left
 ·rw [if_neg c13] at H
  exact absurd H (by simp)
 rw [if_pos c13] at H
 have E1j : decide (0 ≤ (G1)) = true := decide_eq_true c13
 clear c13
 by_cases c14 : (G1) < (l0_3.length : Int)
 rotate_left
 ·rw [if_neg c14] at H
  exact absurd H (by simp)
 rw [if_pos c14] at H
 have E1k : decide ((G1) < (l0_3.length : Int)) = true := decide_eq_true c14
 clear c14
 obtain ⟨G6, Q4⟩ : ∃ j_ : Int, (wrap64 ((G1) + 1)) = j_ := ⟨_, rfl⟩
 replace H : (if 0 ≤ (G6) then (if (G6) < (l0_3.length : Int) then ((warp_at_1.f k ((rd_T28 l0_3 (E3)).f0) ((rd_T28 l0_3 (E7)).f0) ((rd_T28 l0_3 (G1)).f0) ((rd_T28 l0_3 (G6)).f0) a0_2 t120 t123).bind fun t134 => ((warp_at_1.f k ((rd_T28 l0_3 (E3)).f1) ((rd_T28 l0_3 (E7)).f1) ((rd_T28 l0_3 (G1)).f1) ((rd_T28 l0_3 (G6)).f1) a0_2 t120 t123).bind fun t135 => (some (t134, t135)))) else (none)) else (none)) = some (r1, r2) := by first | (rw [Q4] at H; exact H) | (simp only [Q4] at H ⊢; exact H)
 (try rw [Q4] at A4)
 (try rw [Q4] at A5)
 have E1l : (IntKind.i64.wrap ((G1) + 1)) = G6 := (i64_w _).trans Q4
 by_cases c16 : 0 ≤ (G6)
 rotate_left
 ·rw [if_neg c16] at H
  exact absurd H (by simp)
 rw [if_pos c16] at H
 have E1m : decide (0 ≤ (G6)) = true := decide_eq_true c16
 clear c16
 by_cases c17 : (G6) < (l0_3.length : Int)
 rotate_left
 ·rw [if_neg c17] at H
  exact absurd H (by simp)
 rw [if_pos c17] at H
 have E1n : decide ((G6) < (l0_3.length : Int)) = true := decide_eq_true c17
 clear c17
 replace H := Option.bind_eq_some_iff.mp H
 obtain ⟨t134, A180, H⟩ := H
 try dsimp only at H
 have A18 := Aside0.mk A180
 clear A180
 replace H := Option.bind_eq_some_iff.mp H
 obtain ⟨t135, A190, H⟩ := H
 try dsimp only at H
 have A19 := Aside0.mk A190
 clear A190
 simp only [Option.some.injEq, Prod.mk.injEq] at H
 obtain ⟨rfl, rfl⟩ := H
 go_enter Try.func29, Try.ntmps29
 try go_wp2_with (first | ((with_reducible refine gate_dst (N := 3) rfl ?_); refine box_event ?hg (N := 3) ?hd (cs := #[.int .i64 a0_0, .int .i64 a0_1, .int .i64 a0_2, .slice A0_3 l0_3.length c0_3]) (t := 24) ?hr ?_; (case hd => rfl); (case hg => rfl); (case hr => first | (go_simp; done) | (go_simp; rfl)); intro G2 hg w20 hbox hb; have E1o := zg HB hg; have E1p := zg HB hg; have n0_ := Aside0.mk (hbox); replace HB := zb HB hb; have E0 := n0_; clear n0_; clear hb hbox hg) | ((with_reducible refine gate_dst (N := 6) rfl ?_); refine box_event ?hg (N := 6) ?hd (cs := #[.int .i64 0, .int .i64 0]) (t := 28) ?hr ?_; (case hd => rfl); (case hg => rfl); (case hr => first | (go_simp; done) | (go_simp; rfl)); intro G3 hg w21 hbox hb; have E1q := zg HB hg; have E0K := zg HB hg; have E0v := zn E0 hg; have E0w := zn' E0 hg; have n0_ := Aside0.mk (hbox); replace E0 := zk E0 hb; replace HB := zb HB hb; have E1 := n0_; clear n0_; clear hb hbox hg; have E1r := E0v.out; have E1s := E0w.out; obtain ⟨E1t, E1u, E1v, E1w, E1x, E1y, E1z, E1A⟩ := zq4 E0) | ((with_reducible refine gate_callee (f := 65) rfl ?_); refine goesL_ (some 23) rfl rfl Try.func65 (by kernel_rfl) rfl #[.int .i64 a1, .int .i64 a0_0, .int .i64 a0_2] rfl (by (try simp only [List.map_toArray, List.map_cons, List.map_nil]); first | done | rfl | (simp only [List.length_drop, List.length_take]; rfl)) ?_; (with_reducible refine (warp_cell.calls a1 a0_0 a0_2 t119 t120 _ A4.out).mono ?_); rintro e w24 ⟨rfl, hb⟩; refine ⟨_, rfl, ?_⟩; replace E0 := zk E0 hb; replace E1 := zk E1 hb; replace HB := zb HB hb; (try clear hb)) | ((with_reducible refine gate_dst (N := 8) rfl ?_); refine box_event ?hg (N := 8) ?hd (cs := #[.int .i64 0]) (t := 3) ?hr ?_; (case hd => rfl); (case hg => rfl); (case hr => first | (go_simp; done) | (go_simp; rfl)); intro V5 hg w25 hbox hb; have E1B := zg HB hg; have E0L := zg HB hg; have E0A := zn E0 hg; have E0M := zn' E0 hg; have E0s := zn E1 hg; have E0x := zn' E1 hg; have n0_ := Aside0.mk (hbox); replace E0 := zk E0 hb; replace E1 := zk E1 hb; replace HB := zb HB hb; have E2 := n0_; clear n0_; clear hb hbox hg; have E1C := E0M.out; have E1D := E0A.out; have E1E := E0x.out; have E1F := E0s.out; obtain ⟨E1G, E1H⟩ := zq1 E2; obtain ⟨E1I, E1J, E1K, E1L, E1M, E1N, E1O, E1P⟩ := zq4 E0) | ((with_reducible refine gate_callee (f := 65) rfl ?_); refine goesL_ (some 32) rfl rfl Try.func65 (by kernel_rfl) rfl #[.int .i64 a2, .int .i64 a0_1, .int .i64 a0_2] rfl (by (try simp only [List.map_toArray, List.map_cons, List.map_nil]); first | done | rfl | (simp only [List.length_drop, List.length_take]; rfl)) ?_; (with_reducible refine (warp_cell.calls a2 a0_1 a0_2 t122 t123 _ A5.out).mono ?_); rintro e w30 ⟨rfl, hb⟩; refine ⟨_, rfl, ?_⟩; have n0_ := Aside0.mk (blk_below (g := V5) (o := .cells #[.int .i64 t120] 3 (0, 0)) (by exact zp E2 rfl) hb); have n1_ := Aside0.mk (below_step (by exact zbo HB E0L) hb); replace E0 := zfk E0 E0A hb; replace E1 := zfk E1 E0s hb; clear E2; clear HB; have E2 := n0_; have HB := n1_; clear n0_ n1_; (try clear hb)) | ((with_reducible refine gate_dst (N := 10) rfl ?_); refine box_event ?hg (N := 10) ?hd (cs := #[.int .i64 0]) (t := 3) ?hr ?_; (case hd => rfl); (case hg => rfl); (case hr => first | (go_simp; done) | (go_simp; rfl)); intro G7 hg w31 hbox hb; have E1Q := zg HB hg; have E0N := zg HB hg; have E0B := zn E0 hg; have E0O := zn' E0 hg; have E0t := zn E1 hg; have E0y := zn' E1 hg; have E0C := zn E2 hg; have E0P := zn' E2 hg; have n0_ := Aside0.mk (hbox); replace E0 := zk E0 hb; replace E1 := zk E1 hb; replace E2 := zk E2 hb; replace HB := zb HB hb; have E4 := n0_; clear n0_; clear hb hbox hg; have E1R := E0O.out; have E1S := E0B.out; have E1T := E0y.out; have E1U := E0t.out; have E1V := E0P.out; have E1W := E0C.out; obtain ⟨E1X, E1Y⟩ := zq1 E4))
 have n0_ : Aside0 ((w31.setCell ⟨G7, 0, none⟩ (.int .i64 t123)).heap[G2]? = some (.cells #[.int .i64 a0_0, .int .i64 a0_1, .int .i64 a0_2, .slice A0_3 l0_3.length c0_3] 24 (0, 0))) := ⟨by exact zf E0 E0B⟩
 have n1_ : Aside0 ((w31.setCell ⟨G7, 0, none⟩ (.int .i64 t123)).heap[G3]? = some (.cells #[.int .i64 0, .int .i64 0] 28 (0, 0))) := ⟨by exact zf E1 E0t⟩
 have n2_ : Aside0 ((w31.setCell ⟨G7, 0, none⟩ (.int .i64 t123)).heap[V5]? = some (.cells #[.int .i64 t120] 3 (0, 0))) := ⟨by exact zf E2 E0C⟩
 have n3_ : Aside0 ((w31.setCell ⟨G7, 0, none⟩ (.int .i64 t123)).heap[G7]? = some (.cells #[.int .i64 t123] 3 (0, 0))) := ⟨by exact zp E4 rfl⟩
 have n4_ : Aside0 (Below w.heap.size w (w31.setCell ⟨G7, 0, none⟩ (.int .i64 t123))) := ⟨by exact zbo HB E0N⟩
 (try clear E0)
 (try clear E1)
 (try clear E2)
 (try clear E4)
 (try clear HB)
 generalize (w31.setCell ⟨G7, 0, none⟩ (.int .i64 t123)) = w36 at n0_ n1_ n2_ n3_ n4_ ⊢
 have E0 := n0_
 have E1 := n1_
 have E2 := n2_
 have E4 := n3_
 have HB := n4_
 clear n0_ n1_ n2_ n3_ n4_
 replace E0 := zkd E0
 replace E1 := zkd E1
 replace E2 := zkd E2
 replace E4 := zkd E4
 replace HB := zbd HB
 have p125 : 0 ≤ ((E3) : Int) := of_decide_eq_true (by first | (with_reducible assumption) | assumption)
 have q125 : (E3) < (l0_3.length : Int) := of_decide_eq_true (by first | (with_reducible assumption) | assumption)
 obtain ⟨G0, e125, E0h, E0i⟩ := at_T28 E0r.out (E3) p125 q125
 have V8 := E0i
 have V9 := E0h
 cases e125
 replace E0h := (HB.out.cell (World.block_lt_of_cell? w _ E0h)).trans E0h
 replace E0i := (HB.out.cell (World.block_lt_of_cell? w _ E0i)).trans E0i
 replace p125 := eq_true p125
 replace q125 := eq_true q125
 have p126 : 0 ≤ ((E7) : Int) := of_decide_eq_true (by first | (with_reducible assumption) | assumption)
 have q126 : (E7) < (l0_3.length : Int) := of_decide_eq_true (by first | (with_reducible assumption) | assumption)
 obtain ⟨E0Q, e126, E0j, E0k⟩ := at_T28 E0r.out (E7) p126 q126
 have Y0 := E0k
 have Y1 := E0j
 obtain rfl : G0 = E0Q := (by injection e126)
 replace E0j := (HB.out.cell (World.block_lt_of_cell? w _ E0j)).trans E0j
 replace E0k := (HB.out.cell (World.block_lt_of_cell? w _ E0k)).trans E0k
 replace p126 := eq_true p126
 replace q126 := eq_true q126
 refine start_ (n := 25) (S := fun w' => w'.cell? ⟨G2, 0, none⟩ = some (.int .i64 a0_0) ∧ w'.cell? ⟨G2, 1, none⟩ = some (.int .i64 a0_1) ∧ w'.cell? ⟨G2, 2, none⟩ = some (.int .i64 a0_2) ∧ w'.cell? ⟨G2, 3, none⟩ = some (.slice (some G0) l0_3.length c0_3) ∧ w'.cell? (G0.add (((E3)).toNat * 2)) = some (.int .i64 ((rd_T28 l0_3 (E3)).f0)) ∧ w'.cell? ⟨(G0.add (((E3)).toNat * 2)).block, (G0.add (((E3)).toNat * 2)).off + 1, none⟩ = some (.int .i64 ((rd_T28 l0_3 (E3)).f1)) ∧ w'.cell? (G0.add (((E7)).toNat * 2)) = some (.int .i64 ((rd_T28 l0_3 (E7)).f0)) ∧ w'.cell? ⟨(G0.add (((E7)).toNat * 2)).block, (G0.add (((E7)).toNat * 2)).off + 1, none⟩ = some (.int .i64 ((rd_T28 l0_3 (E7)).f1))) (ds := []) (bs 25 0) (by kernel_rfl) rfl rfl ⟨(blk_cell E0.out 0).trans rfl, (blk_cell E0.out 1).trans rfl, (blk_cell E0.out 2).trans rfl, (blk_cell E0.out 3).trans rfl, ((HB.out.cell (World.block_lt_of_cell? w _ V9)).trans V9), ((HB.out.cell (World.block_lt_of_cell? w _ V8)).trans V8), ((HB.out.cell (World.block_lt_of_cell? w _ Y1)).trans Y1), ((HB.out.cell (World.block_lt_of_cell? w _ Y0)).trans Y0)⟩ (fun hHeld => ?_); refine with_tabW warp_at.tab3 warp_at.bits3 (fun HT_ HW_ => ?_)
 generalize w36.drew = w37 at E0 E1 E2 E4 HB E0h E0i E0j E0k hHeld ⊢
 refine pure_ (i := 0) (N := some 35) (v := ?_) (a' := ?_) (bs 25 1) rfl rfl (any_of HT_.out (by kernel_rfl)) (fun _ _ _ h => h) (Or.inl ⟨by rfl, ?_⟩) ?_ ?_
 rotate_left
 ·intro w'
  go_simp
  with_reducible rfl
 rotate_left
 ·simp only [Act.put, sA, sB, sC, i64_w, i32_w]
  rfl
 refine pure_ (i := 2) (N := some 37) (v := ?_) (a' := ?_) (bs 25 5) rfl rfl (any_of HT_.out (by kernel_rfl)) (fun _ _ _ h => h) (Or.inl ⟨by rfl, ?_⟩) ?_ ?_
 rotate_left
 ·intro w'
  go_simp
  with_reducible rfl
 rotate_left
 ·simp only [Act.put, sA, sB, sC, i64_w, i32_w]
  rfl
 refine pure_ (i := 3) (N := some 38) (v := ?_) (a' := ?_) (bs 25 13) rfl rfl (any_of HT_.out (by kernel_rfl)) (fun _ _ _ h => h) (Or.inl ⟨by rfl, ?_⟩) ?_ ?_
 rotate_left
 ·intro w'
  go_simp
  with_reducible rfl
 rotate_left
 ·simp only [Act.put, sA, sB, sC, i64_w, i32_w]
  rfl
 refine pure_ (i := 6) (N := some 41) (v := ?_) (a' := ?_) (bs 25 77) rfl rfl (any_of HT_.out (by kernel_rfl)) (fun _ _ _ h => h) (Or.inl ⟨by rfl, ?_⟩) ?_ ?_
 rotate_left
 ·intro w'
  go_simp
  with_reducible rfl
 rotate_left
 ·simp only [Act.put, sA, sB, sC, i64_w, i32_w]
  rfl
 refine pure_ (i := 10) (N := some 45) (v := ?_) (a' := ?_) (bs 25 1101) rfl rfl (any_of HT_.out (by kernel_rfl)) (fun _ _ _ h => h) (Or.inl ⟨by rfl, ?_⟩) ?_ ?_
 rotate_left
 ·intro w'
  go_simp
  with_reducible rfl
 rotate_left
 ·simp only [Act.put, sA, sB, sC, i64_w, i32_w]
  rfl
 refine pure_ (i := 12) (N := some 47) (v := ?_) (a' := ?_) (bs 25 5197) rfl rfl (any_of HT_.out (by kernel_rfl)) (fun _ _ _ h => h) (Or.inl ⟨by rfl, ?_⟩) ?_ ?_
 rotate_left
 ·intro w'
  go_simp
  with_reducible rfl
 rotate_left
 ·simp only [Act.put, sA, sB, sC, i64_w, i32_w]
  rfl
 refine pure_ (i := 13) (N := some 48) (v := ?_) (a' := ?_) (bs 25 13389) rfl rfl (any_of HT_.out (by kernel_rfl)) (fun _ _ _ h => h) (Or.inl ⟨by rfl, ?_⟩) ?_ ?_
 rotate_left
 ·intro w'
  go_simp
  with_reducible rfl
 rotate_left
 ·simp only [Act.put, sA, sB, sC, i64_w, i32_w]
  rfl
 refine pure_ (i := 16) (N := some 51) (v := ?_) (a' := ?_) (bs 25 78925) rfl rfl (any_of HT_.out (by kernel_rfl)) (fun _ _ _ h => h) (Or.inl ⟨by rfl, ?_⟩) ?_ ?_
 rotate_left
 ·intro w'
  go_simp
  with_reducible rfl
 rotate_left
 ·simp only [Act.put, sA, sB, sC, i64_w, i32_w]
  rfl
 refine take_ (i := 1) (N := some 36) (v := ?_) (a' := ?_) (bs 25 78927) rfl rfl (take_ofW HT_.out HW_.out (by kernel_rfl)) (fun _ _ _ h => h) (Or.inl ⟨by rfl, ?_⟩) hHeld ?_ ?_
 rotate_left
 ·rintro w' ⟨s0, s1, s2, s3, s4, s5, s6, s7⟩
  go_simp
  with_reducible rfl
 rotate_left
 ·simp only [Act.put, sA, sB, sC, i64_w, i32_w]
  rfl
 refine take_ (i := 4) (N := some 39) (v := ?_) (a' := ?_) (bs 25 78943) rfl rfl (take_ofW HT_.out HW_.out (by kernel_rfl)) (fun _ _ _ h => h) (Or.inl ⟨by rfl, ?_⟩) hHeld ?_ ?_
 rotate_left
 ·rintro w' ⟨s0, s1, s2, s3, s4, s5, s6, s7⟩
  go_simp
  with_reducible rfl
 rotate_left
 ·simp only [Act.put, sA, sB, sC, i64_w, i32_w]
  rfl
 refine pure_ (i := 5) (N := some 40) (v := ?_) (a' := ?_) (bs 25 78975) rfl rfl (any_of HT_.out (by kernel_rfl)) (fun _ _ _ h => h) (Or.inl ⟨by rfl, ?_⟩) ?_ ?_
 rotate_left
 ·intro w'
  go_simp
  with_reducible rfl
 rotate_left
 ·simp only [Act.put, sA, sB, sC, i64_w, i32_w]
  rfl
 refine pure_ (i := 7) (N := some 42) (v := ?_) (a' := ?_) (bs 25 79103) rfl rfl (any_of HT_.out (by kernel_rfl)) (fun _ _ _ h => h) (Or.inl ⟨by rfl, ?_⟩) ?_ ?_
 rotate_left
 ·intro w'
  go_simp
  with_reducible rfl
 rotate_left
 ·simp only [Act.put, sA, sB, sC, i64_w, i32_w]
  rfl
 refine pure_ (i := 8) (N := some 43) (v := ?_) (a' := ?_) (bs 25 79359) rfl rfl (any_of HT_.out (by kernel_rfl)) (fun _ _ _ h => h) (Or.inl ⟨by rfl, ?_⟩) ?_ ?_
 rotate_left
 ·intro w'
  go_simp
  with_reducible rfl
 rotate_left
 ·simp only [Act.put, sA, sB, sC, i64_w, i32_w]
  rfl
 refine take_ (i := 9) (N := some 44) (v := ?_) (a' := ?_) (bs 25 79871) rfl rfl (take_ofW HT_.out HW_.out (by kernel_rfl)) (fun _ _ _ h => h) (Or.inl ⟨by rfl, ?_⟩) hHeld ?_ ?_
 rotate_left
 ·rintro w' ⟨s0, s1, s2, s3, s4, s5, s6, s7⟩
  go_simp
  with_reducible rfl
 rotate_left
 ·simp only [Act.put, sA, sB, sC, i64_w, i32_w]
  rfl
 refine take_ (i := 11) (N := some 46) (v := ?_) (a' := ?_) (bs 25 81919) rfl rfl (take_ofW HT_.out HW_.out (by kernel_rfl)) (fun _ _ _ h => h) (Or.inl ⟨by rfl, ?_⟩) hHeld ?_ ?_
 rotate_left
 ·rintro w' ⟨s0, s1, s2, s3, s4, s5, s6, s7⟩
  go_simp
  with_reducible rfl
 rotate_left
 ·simp only [Act.put, sA, sB, sC, i64_w, i32_w]
  rfl
 refine take_ (i := 14) (N := some 49) (v := ?_) (a' := ?_) (bs 25 98303) rfl rfl (take_ofW HT_.out HW_.out (by kernel_rfl)) (fun _ _ _ h => h) (Or.inl ⟨by rfl, ?_⟩) hHeld ?_ ?_
 rotate_left
 ·rintro w' ⟨s0, s1, s2, s3, s4, s5, s6, s7⟩
  go_simp
  with_reducible rfl
 rotate_left
 ·simp only [Act.put, sA, sB, sC, i64_w, i32_w]
  rfl
 refine pure_ (i := 15) (N := some 50) (v := ?_) (a' := ?_) (bs 25 131071) rfl rfl (any_of HT_.out (by kernel_rfl)) (fun _ _ _ h => h) (Or.inl ⟨by rfl, ?_⟩) ?_ ?_
 rotate_left
 ·intro w'
  go_simp
  with_reducible rfl
 rotate_left
 ·simp only [Act.put, sA, sB, sC, i64_w, i32_w]
  rfl
 refine pure_ (i := 17) (N := some 52) (v := ?_) (a' := ?_) (bs 25 262143) rfl rfl (any_of HT_.out (by kernel_rfl)) (fun _ _ _ h => h) (Or.inl ⟨by rfl, ?_⟩) ?_ ?_
 rotate_left
 ·intro w'
  go_simp
  with_reducible rfl
 rotate_left
 ·simp only [Act.put, sA, sB, sC, i64_w, i32_w]
  rfl
 refine pure_ (i := 18) (N := some 53) (v := ?_) (a' := ?_) (bs 25 524287) rfl rfl (any_of HT_.out (by kernel_rfl)) (fun _ _ _ h => h) (Or.inl ⟨by rfl, ?_⟩) ?_ ?_
 rotate_left
 ·intro w'
  go_simp
  with_reducible rfl
 rotate_left
 ·simp only [Act.put, sA, sB, sC, i64_w, i32_w]
  rfl
 refine pure_ (i := 19) (N := some 54) (v := ?_) (a' := ?_) (bs 25 1048575) rfl rfl (any_of HT_.out (by kernel_rfl)) (fun _ _ _ h => h) (Or.inl ⟨by rfl, ?_⟩) ?_ ?_
 rotate_left
 ·intro w'
  go_simp
  with_reducible rfl
 rotate_left
 ·simp only [Act.put, sA, sB, sC, i64_w, i32_w]
  rfl
 refine take_ (i := 20) (N := some 55) (v := ?_) (a' := ?_) (bs 25 2097151) rfl rfl (take_ofW HT_.out HW_.out (by kernel_rfl)) (fun _ _ _ h => h) (Or.inl ⟨by rfl, ?_⟩) hHeld ?_ ?_
 rotate_left
 ·rintro w' ⟨s0, s1, s2, s3, s4, s5, s6, s7⟩
  go_simp
  with_reducible rfl
 rotate_left
 ·simp only [Act.put, sA, sB, sC, i64_w, i32_w]
  rfl
 refine join_ (σ := Nat × Nat) 2 (bs 25 8388607) (fun s_ => [(11, .pointer (some ⟨s_.1, 0, none⟩)), (12, .pointer (some ⟨s_.2, 0, none⟩))]) (fun s_ w' => (w'.cell? ⟨G2, 0, none⟩ = some (.int .i64 a0_0) ∧ w'.cell? ⟨G2, 1, none⟩ = some (.int .i64 a0_1) ∧ w'.cell? ⟨G2, 2, none⟩ = some (.int .i64 a0_2) ∧ w'.cell? ⟨G2, 3, none⟩ = some (.slice (some G0) l0_3.length c0_3) ∧ w'.cell? (G0.add (((E3)).toNat * 2)) = some (.int .i64 ((rd_T28 l0_3 (E3)).f0)) ∧ w'.cell? ⟨(G0.add (((E3)).toNat * 2)).block, (G0.add (((E3)).toNat * 2)).off + 1, none⟩ = some (.int .i64 ((rd_T28 l0_3 (E3)).f1)) ∧ w'.cell? (G0.add (((E7)).toNat * 2)) = some (.int .i64 ((rd_T28 l0_3 (E7)).f0)) ∧ w'.cell? ⟨(G0.add (((E7)).toNat * 2)).block, (G0.add (((E7)).toNat * 2)).off + 1, none⟩ = some (.int .i64 ((rd_T28 l0_3 (E7)).f1))) ∧ (w'.heap[G2]? = some (.cells #[.int .i64 a0_0, .int .i64 a0_1, .int .i64 a0_2, .slice (some G0) l0_3.length c0_3] 24 (0, 0))) ∧ (w'.heap[G3]? = some (.cells #[.int .i64 0, .int .i64 0] 28 (0, 0))) ∧ (w'.heap[V5]? = some (.cells #[.int .i64 t120] 3 (0, 0))) ∧ (w'.heap[G7]? = some (.cells #[.int .i64 t123] 3 (0, 0))) ∧ (w'.heap[s_.1]? = some (.cells #[.int .i64 0, .int .i64 0] 28 (0, 0))) ∧ (w'.heap[s_.2]? = some (.cells #[.int .i64 0, .int .i64 0] 28 (0, 0))) ∧ (w.heap.size ≤ s_.1) ∧ (w.heap.size ≤ s_.1) ∧ (G2 ≠ s_.1) ∧ (s_.1 ≠ G2) ∧ (G3 ≠ s_.1) ∧ (s_.1 ≠ G3) ∧ (V5 ≠ s_.1) ∧ (s_.1 ≠ V5) ∧ (G7 ≠ s_.1) ∧ (s_.1 ≠ G7) ∧ (s_.2 ≠ s_.1) ∧ (s_.1 ≠ s_.2) ∧ (w.heap.size ≤ s_.2) ∧ (w.heap.size ≤ s_.2) ∧ (G2 ≠ s_.2) ∧ (s_.2 ≠ G2) ∧ (G3 ≠ s_.2) ∧ (s_.2 ≠ G3) ∧ (V5 ≠ s_.2) ∧ (s_.2 ≠ V5) ∧ (G7 ≠ s_.2) ∧ (s_.2 ≠ G7) ∧ (Below w.heap.size w w')) ?_ ?_
 rotate_left
 ·intro hCont
  refine two_ (i := 21) (j := 22) (Ni := some 11) (Nj := some 12) (bs 25 4194303) (bs 25 6291455) rfl rfl rfl rfl (two_of HT_.out (by kernel_rfl)) (by decide) (by decide) (fun K hK => ?_) (fun K hK => ?_)
  ·skip
   refine box_step ?hg (N := 11) ?hd (cs := #[.int .i64 0, .int .i64 0]) (t := 28) ?hr ?_; (case hd => rfl); (case hg => rfl); (case hr => first | (go_simp; done) | (go_simp; rfl))
   intro E5 hg w38 hbox hb
   have V0 := zg HB hg
   have E0l := zg HB hg
   have Y8 := zn E0 hg
   have L5 := zn' E0 hg
   have J7 := zn E1 hg
   have Z5 := zn' E1 hg
   have L1 := zn E2 hg
   have Q5 := zn' E2 hg
   have L2 := zn E4 hg
   have Q6 := zn' E4 hg
   have n0_ := Aside0.mk (hbox)
   replace E0 := zk E0 hb
   replace E1 := zk E1 hb
   replace E2 := zk E2 hb
   replace E4 := zk E4 hb
   replace HB := zb HB hb
   have E8 := n0_
   clear n0_
   clear hb hbox hg
   refine hK.out _ _ ⟨(blk_cell E0.out 0).trans rfl, (blk_cell E0.out 1).trans rfl, (blk_cell E0.out 2).trans rfl, (blk_cell E0.out 3).trans rfl, ((HB.out.cell (World.block_lt_of_cell? w _ V9)).trans V9), ((HB.out.cell (World.block_lt_of_cell? w _ V8)).trans V8), ((HB.out.cell (World.block_lt_of_cell? w _ Y1)).trans Y1), ((HB.out.cell (World.block_lt_of_cell? w _ Y0)).trans Y0)⟩ (fun hHeld => ?_)
   clear hK K
   refine norm_ (a' := ?_) ?_ ?_
   rotate_left
   ·show Act.put _ (some 11) _ = _
    simp only [Act.put, sA, sB, sC, i64_w, i32_w]
    rfl
   refine one_ (i := 22) (N := some 12) (bs 25 8388607) rfl rfl (one_of HT_.out (by kernel_rfl)) (by decide) (fun K hK => ?_)
   refine box_step ?hg (N := 12) ?hd (cs := #[.int .i64 0, .int .i64 0]) (t := 28) ?hr ?_; (case hd => rfl); (case hg => rfl); (case hr => first | (go_simp; done) | (go_simp; rfl))
   intro E6 hg w39 hbox hb
   have V1 := zg HB hg
   have E0m := zg HB hg
   have Y9 := zn E0 hg
   have L6 := zn' E0 hg
   have J8 := zn E1 hg
   have Z6 := zn' E1 hg
   have L3 := zn E2 hg
   have Q7 := zn' E2 hg
   have L4 := zn E4 hg
   have Q8 := zn' E4 hg
   have J9 := zn E8 hg
   have L0 := zn' E8 hg
   have n0_ := Aside0.mk (hbox)
   replace E0 := zk E0 hb
   replace E1 := zk E1 hb
   replace E2 := zk E2 hb
   replace E4 := zk E4 hb
   replace E8 := zk E8 hb
   replace HB := zb HB hb
   have E9 := n0_
   clear n0_
   clear hb hbox hg
   refine hK.out _ _ ⟨(blk_cell E0.out 0).trans rfl, (blk_cell E0.out 1).trans rfl, (blk_cell E0.out 2).trans rfl, (blk_cell E0.out 3).trans rfl, ((HB.out.cell (World.block_lt_of_cell? w _ V9)).trans V9), ((HB.out.cell (World.block_lt_of_cell? w _ V8)).trans V8), ((HB.out.cell (World.block_lt_of_cell? w _ Y1)).trans Y1), ((HB.out.cell (World.block_lt_of_cell? w _ Y0)).trans Y0)⟩ (fun hHeld => ?_)
   clear hK K
   refine norm_ (a' := ?_) ?_ ?_
   rotate_left
   ·show Act.put _ (some 12) _ = _
    simp only [Act.put, sA, sB, sC, i64_w, i32_w]
    rfl
   exact norm_ (by simp only [putAll, Act.put, sA, sB, sC]) (hCont (E5, E6) _ ⟨hHeld, (by exact zk0 E0), (by exact zk0 E1), (by exact zk0 E2), (by exact zk0 E4), (by exact zk0 E8), (by exact zk0 E9), V0.out, E0l.out, Y8.out, L5.out, J7.out, Z5.out, L1.out, Q5.out, L2.out, Q6.out, L0.out, J9.out, V1.out, E0m.out, Y9.out, L6.out, J8.out, Z6.out, L3.out, Q7.out, L4.out, Q8.out, (by exact zb0 HB)⟩)
  ·skip
   refine box_step ?hg (N := 12) ?hd (cs := #[.int .i64 0, .int .i64 0]) (t := 28) ?hr ?_; (case hd => rfl); (case hg => rfl); (case hr => first | (go_simp; done) | (go_simp; rfl))
   intro E6 hg w38 hbox hb
   have V1 := zg HB hg
   have E0m := zg HB hg
   have Y9 := zn E0 hg
   have L6 := zn' E0 hg
   have J8 := zn E1 hg
   have Z6 := zn' E1 hg
   have L3 := zn E2 hg
   have Q7 := zn' E2 hg
   have L4 := zn E4 hg
   have Q8 := zn' E4 hg
   have n0_ := Aside0.mk (hbox)
   replace E0 := zk E0 hb
   replace E1 := zk E1 hb
   replace E2 := zk E2 hb
   replace E4 := zk E4 hb
   replace HB := zb HB hb
   have E9 := n0_
   clear n0_
   clear hb hbox hg
   refine hK.out _ _ ⟨(blk_cell E0.out 0).trans rfl, (blk_cell E0.out 1).trans rfl, (blk_cell E0.out 2).trans rfl, (blk_cell E0.out 3).trans rfl, ((HB.out.cell (World.block_lt_of_cell? w _ V9)).trans V9), ((HB.out.cell (World.block_lt_of_cell? w _ V8)).trans V8), ((HB.out.cell (World.block_lt_of_cell? w _ Y1)).trans Y1), ((HB.out.cell (World.block_lt_of_cell? w _ Y0)).trans Y0)⟩ (fun hHeld => ?_)
   clear hK K
   refine norm_ (a' := ?_) ?_ ?_
   rotate_left
   ·show Act.put _ (some 12) _ = _
    simp only [Act.put, sA, sB, sC, i64_w, i32_w]
    rfl
   refine one_ (i := 21) (N := some 11) (bs 25 8388607) rfl rfl (one_of HT_.out (by kernel_rfl)) (by decide) (fun K hK => ?_)
   refine box_step ?hg (N := 11) ?hd (cs := #[.int .i64 0, .int .i64 0]) (t := 28) ?hr ?_; (case hd => rfl); (case hg => rfl); (case hr => first | (go_simp; done) | (go_simp; rfl))
   intro E5 hg w39 hbox hb
   have V0 := zg HB hg
   have E0l := zg HB hg
   have Y8 := zn E0 hg
   have L5 := zn' E0 hg
   have J7 := zn E1 hg
   have Z5 := zn' E1 hg
   have L1 := zn E2 hg
   have Q5 := zn' E2 hg
   have L2 := zn E4 hg
   have Q6 := zn' E4 hg
   have L0 := zn E9 hg
   have J9 := zn' E9 hg
   have n0_ := Aside0.mk (hbox)
   replace E0 := zk E0 hb
   replace E1 := zk E1 hb
   replace E2 := zk E2 hb
   replace E4 := zk E4 hb
   replace E9 := zk E9 hb
   replace HB := zb HB hb
   have E8 := n0_
   clear n0_
   clear hb hbox hg
   refine hK.out _ _ ⟨(blk_cell E0.out 0).trans rfl, (blk_cell E0.out 1).trans rfl, (blk_cell E0.out 2).trans rfl, (blk_cell E0.out 3).trans rfl, ((HB.out.cell (World.block_lt_of_cell? w _ V9)).trans V9), ((HB.out.cell (World.block_lt_of_cell? w _ V8)).trans V8), ((HB.out.cell (World.block_lt_of_cell? w _ Y1)).trans Y1), ((HB.out.cell (World.block_lt_of_cell? w _ Y0)).trans Y0)⟩ (fun hHeld => ?_)
   clear hK K
   refine norm_ (a' := ?_) ?_ ?_
   rotate_left
   ·show Act.put _ (some 11) _ = _
    simp only [Act.put, sA, sB, sC, i64_w, i32_w]
    rfl
   exact norm_ (by simp only [putAll, Act.put, sA, sB, sC]) (hCont (E5, E6) _ ⟨hHeld, (by exact zk0 E0), (by exact zk0 E1), (by exact zk0 E2), (by exact zk0 E4), (by exact zk0 E8), (by exact zk0 E9), V0.out, E0l.out, Y8.out, L5.out, J7.out, Z5.out, L1.out, Q5.out, L2.out, Q6.out, L0.out, J9.out, V1.out, E0m.out, Y9.out, L6.out, J8.out, Z6.out, L3.out, Q7.out, L4.out, Q8.out, (by exact zb0 HB)⟩)
 rintro ⟨E5, E6⟩ w40 ⟨hS_, h0_, h1_, h2_, h3_, h4_, h5_, h6_, h7_, h8_, h9_, h10_, h11_, h12_, h13_, h14_, h15_, h16_, h17_, h18_, h19_, h20_, h21_, h22_, h23_, h24_, h25_, h26_, h27_, h28_⟩
 have n0_ : Aside0 (w40.heap[G2]? = some (.cells #[.int .i64 a0_0, .int .i64 a0_1, .int .i64 a0_2, .slice (some G0) l0_3.length c0_3] 24 (0, 0))) := ⟨h0_⟩
 have n1_ : Aside0 (w40.heap[G3]? = some (.cells #[.int .i64 0, .int .i64 0] 28 (0, 0))) := ⟨h1_⟩
 have n2_ : Aside0 (w40.heap[V5]? = some (.cells #[.int .i64 t120] 3 (0, 0))) := ⟨h2_⟩
 have n3_ : Aside0 (w40.heap[G7]? = some (.cells #[.int .i64 t123] 3 (0, 0))) := ⟨h3_⟩
 have n4_ : Aside0 (w40.heap[E5]? = some (.cells #[.int .i64 0, .int .i64 0] 28 (0, 0))) := ⟨h4_⟩
 have n5_ : Aside0 (w40.heap[E6]? = some (.cells #[.int .i64 0, .int .i64 0] 28 (0, 0))) := ⟨h5_⟩
 have n6_ : Aside0 (w.heap.size ≤ E5) := ⟨h6_⟩
 have n7_ : Aside0 (w.heap.size ≤ E5) := ⟨h7_⟩
 have n8_ : Aside0 (G2 ≠ E5) := ⟨h8_⟩
 have n9_ : Aside0 (E5 ≠ G2) := ⟨h9_⟩
 have n10_ : Aside0 (G3 ≠ E5) := ⟨h10_⟩
 have n11_ : Aside0 (E5 ≠ G3) := ⟨h11_⟩
 have n12_ : Aside0 (V5 ≠ E5) := ⟨h12_⟩
 have n13_ : Aside0 (E5 ≠ V5) := ⟨h13_⟩
 have n14_ : Aside0 (G7 ≠ E5) := ⟨h14_⟩
 have n15_ : Aside0 (E5 ≠ G7) := ⟨h15_⟩
 have n16_ : Aside0 (E6 ≠ E5) := ⟨h16_⟩
 have n17_ : Aside0 (E5 ≠ E6) := ⟨h17_⟩
 have n18_ : Aside0 (w.heap.size ≤ E6) := ⟨h18_⟩
 have n19_ : Aside0 (w.heap.size ≤ E6) := ⟨h19_⟩
 have n20_ : Aside0 (G2 ≠ E6) := ⟨h20_⟩
 have n21_ : Aside0 (E6 ≠ G2) := ⟨h21_⟩
 have n22_ : Aside0 (G3 ≠ E6) := ⟨h22_⟩
 have n23_ : Aside0 (E6 ≠ G3) := ⟨h23_⟩
 have n24_ : Aside0 (V5 ≠ E6) := ⟨h24_⟩
 have n25_ : Aside0 (E6 ≠ V5) := ⟨h25_⟩
 have n26_ : Aside0 (G7 ≠ E6) := ⟨h26_⟩
 have n27_ : Aside0 (E6 ≠ G7) := ⟨h27_⟩
 have n28_ : Aside0 (Below w.heap.size w w40) := ⟨h28_⟩
 clear E0
 clear E1
 clear E2
 clear E4
 clear HB
 clear h0_ h1_ h2_ h3_ h4_ h5_ h6_ h7_ h8_ h9_ h10_ h11_ h12_ h13_ h14_ h15_ h16_ h17_ h18_ h19_ h20_ h21_ h22_ h23_ h24_ h25_ h26_ h27_ h28_
 have E0 := n0_
 have E1 := n1_
 have E2 := n2_
 have E4 := n3_
 have E8 := n4_
 have E9 := n5_
 have V0 := n6_
 have E0l := n7_
 have Y8 := n8_
 have L5 := n9_
 have J7 := n10_
 have Z5 := n11_
 have L1 := n12_
 have Q5 := n13_
 have L2 := n14_
 have Q6 := n15_
 have L0 := n16_
 have J9 := n17_
 have V1 := n18_
 have E0m := n19_
 have Y9 := n20_
 have L6 := n21_
 have J8 := n22_
 have Z6 := n23_
 have L3 := n24_
 have Q7 := n25_
 have L4 := n26_
 have Q8 := n27_
 have HB := n28_
 clear n0_ n1_ n2_ n3_ n4_ n5_ n6_ n7_ n8_ n9_ n10_ n11_ n12_ n13_ n14_ n15_ n16_ n17_ n18_ n19_ n20_ n21_ n22_ n23_ n24_ n25_ n26_ n27_ n28_
 have hHeld : w40.cell? ⟨G2, 0, none⟩ = some (.int .i64 a0_0) ∧ w40.cell? ⟨G2, 1, none⟩ = some (.int .i64 a0_1) ∧ w40.cell? ⟨G2, 2, none⟩ = some (.int .i64 a0_2) ∧ w40.cell? ⟨G2, 3, none⟩ = some (.slice (some G0) l0_3.length c0_3) ∧ w40.cell? (G0.add (((E3)).toNat * 2)) = some (.int .i64 ((rd_T28 l0_3 (E3)).f0)) ∧ w40.cell? ⟨(G0.add (((E3)).toNat * 2)).block, (G0.add (((E3)).toNat * 2)).off + 1, none⟩ = some (.int .i64 ((rd_T28 l0_3 (E3)).f1)) ∧ w40.cell? (G0.add (((E7)).toNat * 2)) = some (.int .i64 ((rd_T28 l0_3 (E7)).f0)) ∧ w40.cell? ⟨(G0.add (((E7)).toNat * 2)).block, (G0.add (((E7)).toNat * 2)).off + 1, none⟩ = some (.int .i64 ((rd_T28 l0_3 (E7)).f1)) := hS_
 refine norm_ (a' := ?_) ?_ ?_
 rotate_left
 ·simp only [putAll, Act.put, sA, sB, sC]
  rfl
 refine one_ (i := 23) (N := none) (bs 25 16777215) rfl rfl (one_of HT_.out (by kernel_rfl)) (by decide) (fun K hK => ?_)
 have hs41 : w40.cell? ⟨E5, 0, none⟩ = some (.int .i64 0) := (blk_cell E8.out 0).trans rfl
 have hfs41 := blk_frozen E8.out 0
 have E1Z := Y8.out
 have E2a := J7.out
 have E2b := L1.out
 have E2c := L2.out
 have E2d := L0.out
 have E2e := L5.out
 have E2f := Z5.out
 have E2g := Q5.out
 have E2h := Q6.out
 have E2i := J9.out
 have hs42 : w40.cell? ⟨E5, 1, none⟩ = some (.int .i64 0) := (blk_cell E8.out 1).trans rfl
 have hfs42 := blk_frozen E8.out 1
 have E2j := Y8.out
 have E2k := J7.out
 have E2l := L1.out
 have E2m := L2.out
 have E2n := L0.out
 have E2o := L5.out
 have E2p := Z5.out
 have E2q := Q5.out
 have E2r := Q6.out
 have E2s := J9.out
 refine skip_ (w1 := ?_) (by rfl) rfl ?_ ?_
 rotate_left
 ·go_simp
  rfl
 refine hK.out _ _ ⟨((cell_far (p := ⟨E5, _, none⟩) Y8.out _).trans (((cell_far (p := ⟨E5, _, none⟩) Y8.out _).trans (hHeld.1)))), ((cell_far (p := ⟨E5, _, none⟩) Y8.out _).trans (((cell_far (p := ⟨E5, _, none⟩) Y8.out _).trans (hHeld.2.1)))), ((cell_far (p := ⟨E5, _, none⟩) Y8.out _).trans (((cell_far (p := ⟨E5, _, none⟩) Y8.out _).trans (hHeld.2.2.1)))), ((cell_far (p := ⟨E5, _, none⟩) Y8.out _).trans (((cell_far (p := ⟨E5, _, none⟩) Y8.out _).trans (hHeld.2.2.2.1)))), ((cell_far (p := ⟨E5, _, none⟩) (by first | exact Nat.ne_of_lt (Nat.lt_of_lt_of_le (by have := World.block_lt_of_cell? _ _ V9; first | rwa [add_block] at this | exact this) V0.out) | (rw [add_block]; exact Nat.ne_of_lt (Nat.lt_of_lt_of_le (by have := World.block_lt_of_cell? _ _ V9; first | rwa [add_block] at this | exact this) V0.out)) | (show (Addr.add _ _).block ≠ _; rw [add_block]; exact Nat.ne_of_lt (Nat.lt_of_lt_of_le (by have := World.block_lt_of_cell? _ _ V9; first | rwa [add_block] at this | exact this) V0.out)) | (dsimp only; exact Nat.ne_of_lt (Nat.lt_of_lt_of_le (by have := World.block_lt_of_cell? _ _ V9; first | rwa [add_block] at this | exact this) V0.out))) _).trans (((cell_far (p := ⟨E5, _, none⟩) (by first | exact Nat.ne_of_lt (Nat.lt_of_lt_of_le (by have := World.block_lt_of_cell? _ _ V9; first | rwa [add_block] at this | exact this) V0.out) | (rw [add_block]; exact Nat.ne_of_lt (Nat.lt_of_lt_of_le (by have := World.block_lt_of_cell? _ _ V9; first | rwa [add_block] at this | exact this) V0.out)) | (show (Addr.add _ _).block ≠ _; rw [add_block]; exact Nat.ne_of_lt (Nat.lt_of_lt_of_le (by have := World.block_lt_of_cell? _ _ V9; first | rwa [add_block] at this | exact this) V0.out)) | (dsimp only; exact Nat.ne_of_lt (Nat.lt_of_lt_of_le (by have := World.block_lt_of_cell? _ _ V9; first | rwa [add_block] at this | exact this) V0.out))) _).trans (hHeld.2.2.2.2.1)))), ((cell_far (p := ⟨E5, _, none⟩) (by first | exact Nat.ne_of_lt (Nat.lt_of_lt_of_le (by have := World.block_lt_of_cell? _ _ V8; first | rwa [add_block] at this | exact this) V0.out) | (rw [add_block]; exact Nat.ne_of_lt (Nat.lt_of_lt_of_le (by have := World.block_lt_of_cell? _ _ V8; first | rwa [add_block] at this | exact this) V0.out)) | (show (Addr.add _ _).block ≠ _; rw [add_block]; exact Nat.ne_of_lt (Nat.lt_of_lt_of_le (by have := World.block_lt_of_cell? _ _ V8; first | rwa [add_block] at this | exact this) V0.out)) | (dsimp only; exact Nat.ne_of_lt (Nat.lt_of_lt_of_le (by have := World.block_lt_of_cell? _ _ V8; first | rwa [add_block] at this | exact this) V0.out))) _).trans (((cell_far (p := ⟨E5, _, none⟩) (by first | exact Nat.ne_of_lt (Nat.lt_of_lt_of_le (by have := World.block_lt_of_cell? _ _ V8; first | rwa [add_block] at this | exact this) V0.out) | (rw [add_block]; exact Nat.ne_of_lt (Nat.lt_of_lt_of_le (by have := World.block_lt_of_cell? _ _ V8; first | rwa [add_block] at this | exact this) V0.out)) | (show (Addr.add _ _).block ≠ _; rw [add_block]; exact Nat.ne_of_lt (Nat.lt_of_lt_of_le (by have := World.block_lt_of_cell? _ _ V8; first | rwa [add_block] at this | exact this) V0.out)) | (dsimp only; exact Nat.ne_of_lt (Nat.lt_of_lt_of_le (by have := World.block_lt_of_cell? _ _ V8; first | rwa [add_block] at this | exact this) V0.out))) _).trans (hHeld.2.2.2.2.2.1)))), ((cell_far (p := ⟨E5, _, none⟩) (by first | exact Nat.ne_of_lt (Nat.lt_of_lt_of_le (by have := World.block_lt_of_cell? _ _ Y1; first | rwa [add_block] at this | exact this) V0.out) | (rw [add_block]; exact Nat.ne_of_lt (Nat.lt_of_lt_of_le (by have := World.block_lt_of_cell? _ _ Y1; first | rwa [add_block] at this | exact this) V0.out)) | (show (Addr.add _ _).block ≠ _; rw [add_block]; exact Nat.ne_of_lt (Nat.lt_of_lt_of_le (by have := World.block_lt_of_cell? _ _ Y1; first | rwa [add_block] at this | exact this) V0.out)) | (dsimp only; exact Nat.ne_of_lt (Nat.lt_of_lt_of_le (by have := World.block_lt_of_cell? _ _ Y1; first | rwa [add_block] at this | exact this) V0.out))) _).trans (((cell_far (p := ⟨E5, _, none⟩) (by first | exact Nat.ne_of_lt (Nat.lt_of_lt_of_le (by have := World.block_lt_of_cell? _ _ Y1; first | rwa [add_block] at this | exact this) V0.out) | (rw [add_block]; exact Nat.ne_of_lt (Nat.lt_of_lt_of_le (by have := World.block_lt_of_cell? _ _ Y1; first | rwa [add_block] at this | exact this) V0.out)) | (show (Addr.add _ _).block ≠ _; rw [add_block]; exact Nat.ne_of_lt (Nat.lt_of_lt_of_le (by have := World.block_lt_of_cell? _ _ Y1; first | rwa [add_block] at this | exact this) V0.out)) | (dsimp only; exact Nat.ne_of_lt (Nat.lt_of_lt_of_le (by have := World.block_lt_of_cell? _ _ Y1; first | rwa [add_block] at this | exact this) V0.out))) _).trans (hHeld.2.2.2.2.2.2.1)))), ((cell_far (p := ⟨E5, _, none⟩) (by first | exact Nat.ne_of_lt (Nat.lt_of_lt_of_le (by have := World.block_lt_of_cell? _ _ Y0; first | rwa [add_block] at this | exact this) V0.out) | (rw [add_block]; exact Nat.ne_of_lt (Nat.lt_of_lt_of_le (by have := World.block_lt_of_cell? _ _ Y0; first | rwa [add_block] at this | exact this) V0.out)) | (show (Addr.add _ _).block ≠ _; rw [add_block]; exact Nat.ne_of_lt (Nat.lt_of_lt_of_le (by have := World.block_lt_of_cell? _ _ Y0; first | rwa [add_block] at this | exact this) V0.out)) | (dsimp only; exact Nat.ne_of_lt (Nat.lt_of_lt_of_le (by have := World.block_lt_of_cell? _ _ Y0; first | rwa [add_block] at this | exact this) V0.out))) _).trans (((cell_far (p := ⟨E5, _, none⟩) (by first | exact Nat.ne_of_lt (Nat.lt_of_lt_of_le (by have := World.block_lt_of_cell? _ _ Y0; first | rwa [add_block] at this | exact this) V0.out) | (rw [add_block]; exact Nat.ne_of_lt (Nat.lt_of_lt_of_le (by have := World.block_lt_of_cell? _ _ Y0; first | rwa [add_block] at this | exact this) V0.out)) | (show (Addr.add _ _).block ≠ _; rw [add_block]; exact Nat.ne_of_lt (Nat.lt_of_lt_of_le (by have := World.block_lt_of_cell? _ _ Y0; first | rwa [add_block] at this | exact this) V0.out)) | (dsimp only; exact Nat.ne_of_lt (Nat.lt_of_lt_of_le (by have := World.block_lt_of_cell? _ _ Y0; first | rwa [add_block] at this | exact this) V0.out))) _).trans (hHeld.2.2.2.2.2.2.2))))⟩ (fun hHeld => ?_)
 clear hK K
 refine one_ (i := 24) (N := none) (bs 25 33554431) rfl rfl (one_of HT_.out (by kernel_rfl)) (by decide) (fun K hK => ?_)
 have hs43 : w40.cell? ⟨E6, 0, none⟩ = some (.int .i64 0) := (blk_cell E9.out 0).trans rfl
 have hfs43 := blk_frozen E9.out 0
 have E2t := Y9.out
 have E2u := J8.out
 have E2v := L3.out
 have E2w := L4.out
 have E2x := J9.out
 have E2y := L6.out
 have E2z := Z6.out
 have E2A := Q7.out
 have E2B := Q8.out
 have E2C := L0.out
 have hs44 : w40.cell? ⟨E6, 1, none⟩ = some (.int .i64 0) := (blk_cell E9.out 1).trans rfl
 have hfs44 := blk_frozen E9.out 1
 have E2D := Y9.out
 have E2E := J8.out
 have E2F := L3.out
 have E2G := L4.out
 have E2H := J9.out
 have E2I := L6.out
 have E2J := Z6.out
 have E2K := Q7.out
 have E2L := Q8.out
 have E2M := L0.out
 refine skip_ (w1 := ?_) (by rfl) rfl ?_ ?_
 rotate_left
 ·go_simp
  rfl
 refine hK.out _ _ ⟨((cell_far (p := ⟨E6, _, none⟩) Y9.out _).trans (((cell_far (p := ⟨E6, _, none⟩) Y9.out _).trans (hHeld.1)))), ((cell_far (p := ⟨E6, _, none⟩) Y9.out _).trans (((cell_far (p := ⟨E6, _, none⟩) Y9.out _).trans (hHeld.2.1)))), ((cell_far (p := ⟨E6, _, none⟩) Y9.out _).trans (((cell_far (p := ⟨E6, _, none⟩) Y9.out _).trans (hHeld.2.2.1)))), ((cell_far (p := ⟨E6, _, none⟩) Y9.out _).trans (((cell_far (p := ⟨E6, _, none⟩) Y9.out _).trans (hHeld.2.2.2.1)))), ((cell_far (p := ⟨E6, _, none⟩) (by first | exact Nat.ne_of_lt (Nat.lt_of_lt_of_le (by have := World.block_lt_of_cell? _ _ V9; first | rwa [add_block] at this | exact this) V1.out) | (rw [add_block]; exact Nat.ne_of_lt (Nat.lt_of_lt_of_le (by have := World.block_lt_of_cell? _ _ V9; first | rwa [add_block] at this | exact this) V1.out)) | (show (Addr.add _ _).block ≠ _; rw [add_block]; exact Nat.ne_of_lt (Nat.lt_of_lt_of_le (by have := World.block_lt_of_cell? _ _ V9; first | rwa [add_block] at this | exact this) V1.out)) | (dsimp only; exact Nat.ne_of_lt (Nat.lt_of_lt_of_le (by have := World.block_lt_of_cell? _ _ V9; first | rwa [add_block] at this | exact this) V1.out))) _).trans (((cell_far (p := ⟨E6, _, none⟩) (by first | exact Nat.ne_of_lt (Nat.lt_of_lt_of_le (by have := World.block_lt_of_cell? _ _ V9; first | rwa [add_block] at this | exact this) V1.out) | (rw [add_block]; exact Nat.ne_of_lt (Nat.lt_of_lt_of_le (by have := World.block_lt_of_cell? _ _ V9; first | rwa [add_block] at this | exact this) V1.out)) | (show (Addr.add _ _).block ≠ _; rw [add_block]; exact Nat.ne_of_lt (Nat.lt_of_lt_of_le (by have := World.block_lt_of_cell? _ _ V9; first | rwa [add_block] at this | exact this) V1.out)) | (dsimp only; exact Nat.ne_of_lt (Nat.lt_of_lt_of_le (by have := World.block_lt_of_cell? _ _ V9; first | rwa [add_block] at this | exact this) V1.out))) _).trans (hHeld.2.2.2.2.1)))), ((cell_far (p := ⟨E6, _, none⟩) (by first | exact Nat.ne_of_lt (Nat.lt_of_lt_of_le (by have := World.block_lt_of_cell? _ _ V8; first | rwa [add_block] at this | exact this) V1.out) | (rw [add_block]; exact Nat.ne_of_lt (Nat.lt_of_lt_of_le (by have := World.block_lt_of_cell? _ _ V8; first | rwa [add_block] at this | exact this) V1.out)) | (show (Addr.add _ _).block ≠ _; rw [add_block]; exact Nat.ne_of_lt (Nat.lt_of_lt_of_le (by have := World.block_lt_of_cell? _ _ V8; first | rwa [add_block] at this | exact this) V1.out)) | (dsimp only; exact Nat.ne_of_lt (Nat.lt_of_lt_of_le (by have := World.block_lt_of_cell? _ _ V8; first | rwa [add_block] at this | exact this) V1.out))) _).trans (((cell_far (p := ⟨E6, _, none⟩) (by first | exact Nat.ne_of_lt (Nat.lt_of_lt_of_le (by have := World.block_lt_of_cell? _ _ V8; first | rwa [add_block] at this | exact this) V1.out) | (rw [add_block]; exact Nat.ne_of_lt (Nat.lt_of_lt_of_le (by have := World.block_lt_of_cell? _ _ V8; first | rwa [add_block] at this | exact this) V1.out)) | (show (Addr.add _ _).block ≠ _; rw [add_block]; exact Nat.ne_of_lt (Nat.lt_of_lt_of_le (by have := World.block_lt_of_cell? _ _ V8; first | rwa [add_block] at this | exact this) V1.out)) | (dsimp only; exact Nat.ne_of_lt (Nat.lt_of_lt_of_le (by have := World.block_lt_of_cell? _ _ V8; first | rwa [add_block] at this | exact this) V1.out))) _).trans (hHeld.2.2.2.2.2.1)))), ((cell_far (p := ⟨E6, _, none⟩) (by first | exact Nat.ne_of_lt (Nat.lt_of_lt_of_le (by have := World.block_lt_of_cell? _ _ Y1; first | rwa [add_block] at this | exact this) V1.out) | (rw [add_block]; exact Nat.ne_of_lt (Nat.lt_of_lt_of_le (by have := World.block_lt_of_cell? _ _ Y1; first | rwa [add_block] at this | exact this) V1.out)) | (show (Addr.add _ _).block ≠ _; rw [add_block]; exact Nat.ne_of_lt (Nat.lt_of_lt_of_le (by have := World.block_lt_of_cell? _ _ Y1; first | rwa [add_block] at this | exact this) V1.out)) | (dsimp only; exact Nat.ne_of_lt (Nat.lt_of_lt_of_le (by have := World.block_lt_of_cell? _ _ Y1; first | rwa [add_block] at this | exact this) V1.out))) _).trans (((cell_far (p := ⟨E6, _, none⟩) (by first | exact Nat.ne_of_lt (Nat.lt_of_lt_of_le (by have := World.block_lt_of_cell? _ _ Y1; first | rwa [add_block] at this | exact this) V1.out) | (rw [add_block]; exact Nat.ne_of_lt (Nat.lt_of_lt_of_le (by have := World.block_lt_of_cell? _ _ Y1; first | rwa [add_block] at this | exact this) V1.out)) | (show (Addr.add _ _).block ≠ _; rw [add_block]; exact Nat.ne_of_lt (Nat.lt_of_lt_of_le (by have := World.block_lt_of_cell? _ _ Y1; first | rwa [add_block] at this | exact this) V1.out)) | (dsimp only; exact Nat.ne_of_lt (Nat.lt_of_lt_of_le (by have := World.block_lt_of_cell? _ _ Y1; first | rwa [add_block] at this | exact this) V1.out))) _).trans (hHeld.2.2.2.2.2.2.1)))), ((cell_far (p := ⟨E6, _, none⟩) (by first | exact Nat.ne_of_lt (Nat.lt_of_lt_of_le (by have := World.block_lt_of_cell? _ _ Y0; first | rwa [add_block] at this | exact this) V1.out) | (rw [add_block]; exact Nat.ne_of_lt (Nat.lt_of_lt_of_le (by have := World.block_lt_of_cell? _ _ Y0; first | rwa [add_block] at this | exact this) V1.out)) | (show (Addr.add _ _).block ≠ _; rw [add_block]; exact Nat.ne_of_lt (Nat.lt_of_lt_of_le (by have := World.block_lt_of_cell? _ _ Y0; first | rwa [add_block] at this | exact this) V1.out)) | (dsimp only; exact Nat.ne_of_lt (Nat.lt_of_lt_of_le (by have := World.block_lt_of_cell? _ _ Y0; first | rwa [add_block] at this | exact this) V1.out))) _).trans (((cell_far (p := ⟨E6, _, none⟩) (by first | exact Nat.ne_of_lt (Nat.lt_of_lt_of_le (by have := World.block_lt_of_cell? _ _ Y0; first | rwa [add_block] at this | exact this) V1.out) | (rw [add_block]; exact Nat.ne_of_lt (Nat.lt_of_lt_of_le (by have := World.block_lt_of_cell? _ _ Y0; first | rwa [add_block] at this | exact this) V1.out)) | (show (Addr.add _ _).block ≠ _; rw [add_block]; exact Nat.ne_of_lt (Nat.lt_of_lt_of_le (by have := World.block_lt_of_cell? _ _ Y0; first | rwa [add_block] at this | exact this) V1.out)) | (dsimp only; exact Nat.ne_of_lt (Nat.lt_of_lt_of_le (by have := World.block_lt_of_cell? _ _ Y0; first | rwa [add_block] at this | exact this) V1.out))) _).trans (hHeld.2.2.2.2.2.2.2))))⟩ (fun hHeld => ?_)
 clear hK K
 refine done_ (done_of HT_.out (by kernel_rfl)) ?_
 try go_wp2
 have n0_ : Aside0 (((((w40.setCell ⟨E5, 0, none⟩ (.int .i64 ((rd_T28 l0_3 (E3)).f0))).setCell ⟨E5, 1, none⟩ (.int .i64 ((rd_T28 l0_3 (E3)).f1))).setCell ⟨E6, 0, none⟩ (.int .i64 ((rd_T28 l0_3 (E7)).f0))).setCell ⟨E6, 1, none⟩ (.int .i64 ((rd_T28 l0_3 (E7)).f1))).heap[G2]? = some (.cells #[.int .i64 a0_0, .int .i64 a0_1, .int .i64 a0_2, .slice (some G0) l0_3.length c0_3] 24 (0, 0))) := ⟨by (with_reducible repeat (first | refine blk_drewN ?_ _ | refine blk_drew ?_ | refine blk_alloc ?_ _)); refine blk_far ?_ Y9.out _; (with_reducible repeat (first | refine blk_drewN ?_ _ | refine blk_drew ?_ | refine blk_alloc ?_ _)); refine blk_far ?_ Y9.out _; (with_reducible repeat (first | refine blk_drewN ?_ _ | refine blk_drew ?_ | refine blk_alloc ?_ _)); refine blk_far ?_ Y8.out _; (with_reducible repeat (first | refine blk_drewN ?_ _ | refine blk_drew ?_ | refine blk_alloc ?_ _)); refine blk_far ?_ Y8.out _; (with_reducible repeat (first | refine blk_drewN ?_ _ | refine blk_drew ?_ | refine blk_alloc ?_ _)); exact E0.out⟩
 have n1_ : Aside0 (((((w40.setCell ⟨E5, 0, none⟩ (.int .i64 ((rd_T28 l0_3 (E3)).f0))).setCell ⟨E5, 1, none⟩ (.int .i64 ((rd_T28 l0_3 (E3)).f1))).setCell ⟨E6, 0, none⟩ (.int .i64 ((rd_T28 l0_3 (E7)).f0))).setCell ⟨E6, 1, none⟩ (.int .i64 ((rd_T28 l0_3 (E7)).f1))).heap[G3]? = some (.cells #[.int .i64 0, .int .i64 0] 28 (0, 0))) := ⟨by (with_reducible repeat (first | refine blk_drewN ?_ _ | refine blk_drew ?_ | refine blk_alloc ?_ _)); refine blk_far ?_ J8.out _; (with_reducible repeat (first | refine blk_drewN ?_ _ | refine blk_drew ?_ | refine blk_alloc ?_ _)); refine blk_far ?_ J8.out _; (with_reducible repeat (first | refine blk_drewN ?_ _ | refine blk_drew ?_ | refine blk_alloc ?_ _)); refine blk_far ?_ J7.out _; (with_reducible repeat (first | refine blk_drewN ?_ _ | refine blk_drew ?_ | refine blk_alloc ?_ _)); refine blk_far ?_ J7.out _; (with_reducible repeat (first | refine blk_drewN ?_ _ | refine blk_drew ?_ | refine blk_alloc ?_ _)); exact E1.out⟩
 have n2_ : Aside0 (((((w40.setCell ⟨E5, 0, none⟩ (.int .i64 ((rd_T28 l0_3 (E3)).f0))).setCell ⟨E5, 1, none⟩ (.int .i64 ((rd_T28 l0_3 (E3)).f1))).setCell ⟨E6, 0, none⟩ (.int .i64 ((rd_T28 l0_3 (E7)).f0))).setCell ⟨E6, 1, none⟩ (.int .i64 ((rd_T28 l0_3 (E7)).f1))).heap[V5]? = some (.cells #[.int .i64 t120] 3 (0, 0))) := ⟨by (with_reducible repeat (first | refine blk_drewN ?_ _ | refine blk_drew ?_ | refine blk_alloc ?_ _)); refine blk_far ?_ L3.out _; (with_reducible repeat (first | refine blk_drewN ?_ _ | refine blk_drew ?_ | refine blk_alloc ?_ _)); refine blk_far ?_ L3.out _; (with_reducible repeat (first | refine blk_drewN ?_ _ | refine blk_drew ?_ | refine blk_alloc ?_ _)); refine blk_far ?_ L1.out _; (with_reducible repeat (first | refine blk_drewN ?_ _ | refine blk_drew ?_ | refine blk_alloc ?_ _)); refine blk_far ?_ L1.out _; (with_reducible repeat (first | refine blk_drewN ?_ _ | refine blk_drew ?_ | refine blk_alloc ?_ _)); exact E2.out⟩
 have n3_ : Aside0 (((((w40.setCell ⟨E5, 0, none⟩ (.int .i64 ((rd_T28 l0_3 (E3)).f0))).setCell ⟨E5, 1, none⟩ (.int .i64 ((rd_T28 l0_3 (E3)).f1))).setCell ⟨E6, 0, none⟩ (.int .i64 ((rd_T28 l0_3 (E7)).f0))).setCell ⟨E6, 1, none⟩ (.int .i64 ((rd_T28 l0_3 (E7)).f1))).heap[G7]? = some (.cells #[.int .i64 t123] 3 (0, 0))) := ⟨by (with_reducible repeat (first | refine blk_drewN ?_ _ | refine blk_drew ?_ | refine blk_alloc ?_ _)); refine blk_far ?_ L4.out _; (with_reducible repeat (first | refine blk_drewN ?_ _ | refine blk_drew ?_ | refine blk_alloc ?_ _)); refine blk_far ?_ L4.out _; (with_reducible repeat (first | refine blk_drewN ?_ _ | refine blk_drew ?_ | refine blk_alloc ?_ _)); refine blk_far ?_ L2.out _; (with_reducible repeat (first | refine blk_drewN ?_ _ | refine blk_drew ?_ | refine blk_alloc ?_ _)); refine blk_far ?_ L2.out _; (with_reducible repeat (first | refine blk_drewN ?_ _ | refine blk_drew ?_ | refine blk_alloc ?_ _)); exact E4.out⟩
 have n4_ : Aside0 (((((w40.setCell ⟨E5, 0, none⟩ (.int .i64 ((rd_T28 l0_3 (E3)).f0))).setCell ⟨E5, 1, none⟩ (.int .i64 ((rd_T28 l0_3 (E3)).f1))).setCell ⟨E6, 0, none⟩ (.int .i64 ((rd_T28 l0_3 (E7)).f0))).setCell ⟨E6, 1, none⟩ (.int .i64 ((rd_T28 l0_3 (E7)).f1))).heap[E5]? = some (.cells #[.int .i64 ((rd_T28 l0_3 (E3)).f0), .int .i64 ((rd_T28 l0_3 (E3)).f1)] 28 (0, 0))) := ⟨by (with_reducible repeat (first | refine blk_drewN ?_ _ | refine blk_drew ?_ | refine blk_alloc ?_ _)); refine blk_far ?_ J9.out _; (with_reducible repeat (first | refine blk_drewN ?_ _ | refine blk_drew ?_ | refine blk_alloc ?_ _)); refine blk_far ?_ J9.out _; (with_reducible repeat (first | refine blk_drewN ?_ _ | refine blk_drew ?_ | refine blk_alloc ?_ _)); refine blk_put (cs := #[.int .i64 ((rd_T28 l0_3 (E3)).f0), .int .i64 0]) ?_ 1 _ rfl; (with_reducible repeat (first | refine blk_drewN ?_ _ | refine blk_drew ?_ | refine blk_alloc ?_ _)); refine blk_put (cs := #[.int .i64 0, .int .i64 0]) ?_ 0 _ rfl; (with_reducible repeat (first | refine blk_drewN ?_ _ | refine blk_drew ?_ | refine blk_alloc ?_ _)); exact E8.out⟩
 have n5_ : Aside0 (((((w40.setCell ⟨E5, 0, none⟩ (.int .i64 ((rd_T28 l0_3 (E3)).f0))).setCell ⟨E5, 1, none⟩ (.int .i64 ((rd_T28 l0_3 (E3)).f1))).setCell ⟨E6, 0, none⟩ (.int .i64 ((rd_T28 l0_3 (E7)).f0))).setCell ⟨E6, 1, none⟩ (.int .i64 ((rd_T28 l0_3 (E7)).f1))).heap[E6]? = some (.cells #[.int .i64 ((rd_T28 l0_3 (E7)).f0), .int .i64 ((rd_T28 l0_3 (E7)).f1)] 28 (0, 0))) := ⟨by (with_reducible repeat (first | refine blk_drewN ?_ _ | refine blk_drew ?_ | refine blk_alloc ?_ _)); refine blk_put (cs := #[.int .i64 ((rd_T28 l0_3 (E7)).f0), .int .i64 0]) ?_ 1 _ rfl; (with_reducible repeat (first | refine blk_drewN ?_ _ | refine blk_drew ?_ | refine blk_alloc ?_ _)); refine blk_put (cs := #[.int .i64 0, .int .i64 0]) ?_ 0 _ rfl; (with_reducible repeat (first | refine blk_drewN ?_ _ | refine blk_drew ?_ | refine blk_alloc ?_ _)); refine blk_far ?_ L0.out _; (with_reducible repeat (first | refine blk_drewN ?_ _ | refine blk_drew ?_ | refine blk_alloc ?_ _)); refine blk_far ?_ L0.out _; (with_reducible repeat (first | refine blk_drewN ?_ _ | refine blk_drew ?_ | refine blk_alloc ?_ _)); exact E9.out⟩
 have n6_ : Aside0 (Below w.heap.size w ((((w40.setCell ⟨E5, 0, none⟩ (.int .i64 ((rd_T28 l0_3 (E3)).f0))).setCell ⟨E5, 1, none⟩ (.int .i64 ((rd_T28 l0_3 (E3)).f1))).setCell ⟨E6, 0, none⟩ (.int .i64 ((rd_T28 l0_3 (E7)).f0))).setCell ⟨E6, 1, none⟩ (.int .i64 ((rd_T28 l0_3 (E7)).f1)))) := ⟨by repeat (first | (with_reducible first | exact HB.out | apply below_alloc | apply pw_below_drewN | apply below_drew1 | refine below_set ?_ E0l.out | refine below_set ?_ E0m.out) | exact HB.out)⟩
 (try clear E0)
 (try clear E1)
 (try clear E2)
 (try clear E4)
 (try clear E8)
 (try clear E9)
 (try clear HB)
 generalize ((((w40.setCell ⟨E5, 0, none⟩ (.int .i64 ((rd_T28 l0_3 (E3)).f0))).setCell ⟨E5, 1, none⟩ (.int .i64 ((rd_T28 l0_3 (E3)).f1))).setCell ⟨E6, 0, none⟩ (.int .i64 ((rd_T28 l0_3 (E7)).f0))).setCell ⟨E6, 1, none⟩ (.int .i64 ((rd_T28 l0_3 (E7)).f1))) = w45 at n0_ n1_ n2_ n3_ n4_ n5_ n6_ ⊢
 have E0 := n0_
 have E1 := n1_
 have E2 := n2_
 have E4 := n3_
 have E8 := n4_
 have E9 := n5_
 have HB := n6_
 clear n0_ n1_ n2_ n3_ n4_ n5_ n6_
 replace E0 := zkd E0
 replace E1 := zkd E1
 replace E2 := zkd E2
 replace E4 := zkd E4
 replace E8 := zkd E8
 replace E9 := zkd E9
 replace HB := zbd HB
 have p129 : 0 ≤ ((G1) : Int) := of_decide_eq_true (by first | (with_reducible assumption) | assumption)
 have q129 : (G1) < (l0_3.length : Int) := of_decide_eq_true (by first | (with_reducible assumption) | assumption)
 obtain ⟨E0R, e129, E0n, E0o⟩ := at_T28 E0r.out (G1) p129 q129
 have Y2 := E0o
 have Y3 := E0n
 obtain rfl : G0 = E0R := (by injection e129)
 replace E0n := (HB.out.cell (World.block_lt_of_cell? w _ E0n)).trans E0n
 replace E0o := (HB.out.cell (World.block_lt_of_cell? w _ E0o)).trans E0o
 replace p129 := eq_true p129
 replace q129 := eq_true q129
 have p130 : 0 ≤ ((G6) : Int) := of_decide_eq_true (by first | (with_reducible assumption) | assumption)
 have q130 : (G6) < (l0_3.length : Int) := of_decide_eq_true (by first | (with_reducible assumption) | assumption)
 obtain ⟨E0S, e130, E0p, E0q⟩ := at_T28 E0r.out (G6) p130 q130
 have Y4 := E0q
 have Y5 := E0p
 obtain rfl : G0 = E0S := (by injection e130)
 replace E0p := (HB.out.cell (World.block_lt_of_cell? w _ E0p)).trans E0p
 replace E0q := (HB.out.cell (World.block_lt_of_cell? w _ E0q)).trans E0q
 replace p130 := eq_true p130
 replace q130 := eq_true q130
 refine start_ (n := 27) (S := fun w' => w'.cell? ⟨G2, 0, none⟩ = some (.int .i64 a0_0) ∧ w'.cell? ⟨G2, 1, none⟩ = some (.int .i64 a0_1) ∧ w'.cell? ⟨G2, 2, none⟩ = some (.int .i64 a0_2) ∧ w'.cell? ⟨G2, 3, none⟩ = some (.slice (some G0) l0_3.length c0_3) ∧ w'.cell? (G0.add (((G1)).toNat * 2)) = some (.int .i64 ((rd_T28 l0_3 (G1)).f0)) ∧ w'.cell? ⟨(G0.add (((G1)).toNat * 2)).block, (G0.add (((G1)).toNat * 2)).off + 1, none⟩ = some (.int .i64 ((rd_T28 l0_3 (G1)).f1)) ∧ w'.cell? (G0.add (((G6)).toNat * 2)) = some (.int .i64 ((rd_T28 l0_3 (G6)).f0)) ∧ w'.cell? ⟨(G0.add (((G6)).toNat * 2)).block, (G0.add (((G6)).toNat * 2)).off + 1, none⟩ = some (.int .i64 ((rd_T28 l0_3 (G6)).f1))) (ds := []) (bs 27 0) (by kernel_rfl) rfl rfl ⟨(blk_cell E0.out 0).trans rfl, (blk_cell E0.out 1).trans rfl, (blk_cell E0.out 2).trans rfl, (blk_cell E0.out 3).trans rfl, ((HB.out.cell (World.block_lt_of_cell? w _ Y3)).trans Y3), ((HB.out.cell (World.block_lt_of_cell? w _ Y2)).trans Y2), ((HB.out.cell (World.block_lt_of_cell? w _ Y5)).trans Y5), ((HB.out.cell (World.block_lt_of_cell? w _ Y4)).trans Y4)⟩ (fun hHeld => ?_); refine with_tabW warp_at.tab4 warp_at.bits4 (fun HT_ HW_ => ?_)
 generalize w45.drew = w46 at E0 E1 E2 E4 E8 E9 HB E0n E0o E0p E0q hHeld ⊢
 refine pure_ (i := 0) (N := some 56) (v := ?_) (a' := ?_) (bs 27 1) rfl rfl (any_of HT_.out (by kernel_rfl)) (fun _ _ _ h => h) (Or.inl ⟨by rfl, ?_⟩) ?_ ?_
 rotate_left
 ·intro w'
  go_simp
  with_reducible rfl
 rotate_left
 ·simp only [Act.put, sA, sB, sC, i64_w, i32_w]
  rfl
 refine pure_ (i := 2) (N := some 58) (v := ?_) (a' := ?_) (bs 27 5) rfl rfl (any_of HT_.out (by kernel_rfl)) (fun _ _ _ h => h) (Or.inl ⟨by rfl, ?_⟩) ?_ ?_
 rotate_left
 ·intro w'
  go_simp
  with_reducible rfl
 rotate_left
 ·simp only [Act.put, sA, sB, sC, i64_w, i32_w]
  rfl
 refine pure_ (i := 3) (N := some 59) (v := ?_) (a' := ?_) (bs 27 13) rfl rfl (any_of HT_.out (by kernel_rfl)) (fun _ _ _ h => h) (Or.inl ⟨by rfl, ?_⟩) ?_ ?_
 rotate_left
 ·intro w'
  go_simp
  with_reducible rfl
 rotate_left
 ·simp only [Act.put, sA, sB, sC, i64_w, i32_w]
  rfl
 refine pure_ (i := 4) (N := some 60) (v := ?_) (a' := ?_) (bs 27 29) rfl rfl (any_of HT_.out (by kernel_rfl)) (fun _ _ _ h => h) (Or.inl ⟨by rfl, ?_⟩) ?_ ?_
 rotate_left
 ·intro w'
  go_simp
  with_reducible rfl
 rotate_left
 ·simp only [Act.put, sA, sB, sC, i64_w, i32_w]
  rfl
 refine pure_ (i := 7) (N := some 63) (v := ?_) (a' := ?_) (bs 27 157) rfl rfl (any_of HT_.out (by kernel_rfl)) (fun _ _ _ h => h) (Or.inl ⟨by rfl, ?_⟩) ?_ ?_
 rotate_left
 ·intro w'
  go_simp
  with_reducible rfl
 rotate_left
 ·simp only [Act.put, sA, sB, sC, i64_w, i32_w]
  rfl
 refine pure_ (i := 11) (N := some 67) (v := ?_) (a' := ?_) (bs 27 2205) rfl rfl (any_of HT_.out (by kernel_rfl)) (fun _ _ _ h => h) (Or.inl ⟨by rfl, ?_⟩) ?_ ?_
 rotate_left
 ·intro w'
  go_simp
  with_reducible rfl
 rotate_left
 ·simp only [Act.put, sA, sB, sC, i64_w, i32_w]
  rfl
 refine pure_ (i := 13) (N := some 69) (v := ?_) (a' := ?_) (bs 27 10397) rfl rfl (any_of HT_.out (by kernel_rfl)) (fun _ _ _ h => h) (Or.inl ⟨by rfl, ?_⟩) ?_ ?_
 rotate_left
 ·intro w'
  go_simp
  with_reducible rfl
 rotate_left
 ·simp only [Act.put, sA, sB, sC, i64_w, i32_w]
  rfl
 refine pure_ (i := 14) (N := some 70) (v := ?_) (a' := ?_) (bs 27 26781) rfl rfl (any_of HT_.out (by kernel_rfl)) (fun _ _ _ h => h) (Or.inl ⟨by rfl, ?_⟩) ?_ ?_
 rotate_left
 ·intro w'
  go_simp
  with_reducible rfl
 rotate_left
 ·simp only [Act.put, sA, sB, sC, i64_w, i32_w]
  rfl
 refine pure_ (i := 15) (N := some 71) (v := ?_) (a' := ?_) (bs 27 59549) rfl rfl (any_of HT_.out (by kernel_rfl)) (fun _ _ _ h => h) (Or.inl ⟨by rfl, ?_⟩) ?_ ?_
 rotate_left
 ·intro w'
  go_simp
  with_reducible rfl
 rotate_left
 ·simp only [Act.put, sA, sB, sC, i64_w, i32_w]
  rfl
 refine pure_ (i := 18) (N := some 74) (v := ?_) (a' := ?_) (bs 27 321693) rfl rfl (any_of HT_.out (by kernel_rfl)) (fun _ _ _ h => h) (Or.inl ⟨by rfl, ?_⟩) ?_ ?_
 rotate_left
 ·intro w'
  go_simp
  with_reducible rfl
 rotate_left
 ·simp only [Act.put, sA, sB, sC, i64_w, i32_w]
  rfl
 refine take_ (i := 1) (N := some 57) (v := ?_) (a' := ?_) (bs 27 321695) rfl rfl (take_ofW HT_.out HW_.out (by kernel_rfl)) (fun _ _ _ h => h) (Or.inl ⟨by rfl, ?_⟩) hHeld ?_ ?_
 rotate_left
 ·rintro w' ⟨s0, s1, s2, s3, s4, s5, s6, s7⟩
  go_simp
  with_reducible rfl
 rotate_left
 ·simp only [Act.put, sA, sB, sC, i64_w, i32_w]
  rfl
 refine take_ (i := 5) (N := some 61) (v := ?_) (a' := ?_) (bs 27 321727) rfl rfl (take_ofW HT_.out HW_.out (by kernel_rfl)) (fun _ _ _ h => h) (Or.inl ⟨by rfl, ?_⟩) hHeld ?_ ?_
 rotate_left
 ·rintro w' ⟨s0, s1, s2, s3, s4, s5, s6, s7⟩
  go_simp
  with_reducible rfl
 rotate_left
 ·simp only [Act.put, sA, sB, sC, i64_w, i32_w]
  rfl
 refine pure_ (i := 6) (N := some 62) (v := ?_) (a' := ?_) (bs 27 321791) rfl rfl (any_of HT_.out (by kernel_rfl)) (fun _ _ _ h => h) (Or.inl ⟨by rfl, ?_⟩) ?_ ?_
 rotate_left
 ·intro w'
  go_simp
  with_reducible rfl
 rotate_left
 ·simp only [Act.put, sA, sB, sC, i64_w, i32_w]
  rfl
 refine pure_ (i := 8) (N := some 64) (v := ?_) (a' := ?_) (bs 27 322047) rfl rfl (any_of HT_.out (by kernel_rfl)) (fun _ _ _ h => h) (Or.inl ⟨by rfl, ?_⟩) ?_ ?_
 rotate_left
 ·intro w'
  go_simp
  with_reducible rfl
 rotate_left
 ·simp only [Act.put, sA, sB, sC, i64_w, i32_w]
  rfl
 refine pure_ (i := 9) (N := some 65) (v := ?_) (a' := ?_) (bs 27 322559) rfl rfl (any_of HT_.out (by kernel_rfl)) (fun _ _ _ h => h) (Or.inl ⟨by rfl, ?_⟩) ?_ ?_
 rotate_left
 ·intro w'
  go_simp
  with_reducible rfl
 rotate_left
 ·simp only [Act.put, sA, sB, sC, i64_w, i32_w]
  rfl
 refine take_ (i := 10) (N := some 66) (v := ?_) (a' := ?_) (bs 27 323583) rfl rfl (take_ofW HT_.out HW_.out (by kernel_rfl)) (fun _ _ _ h => h) (Or.inl ⟨by rfl, ?_⟩) hHeld ?_ ?_
 rotate_left
 ·rintro w' ⟨s0, s1, s2, s3, s4, s5, s6, s7⟩
  go_simp
  with_reducible rfl
 rotate_left
 ·simp only [Act.put, sA, sB, sC, i64_w, i32_w]
  rfl
 refine take_ (i := 12) (N := some 68) (v := ?_) (a' := ?_) (bs 27 327679) rfl rfl (take_ofW HT_.out HW_.out (by kernel_rfl)) (fun _ _ _ h => h) (Or.inl ⟨by rfl, ?_⟩) hHeld ?_ ?_
 rotate_left
 ·rintro w' ⟨s0, s1, s2, s3, s4, s5, s6, s7⟩
  go_simp
  with_reducible rfl
 rotate_left
 ·simp only [Act.put, sA, sB, sC, i64_w, i32_w]
  rfl
 refine take_ (i := 16) (N := some 72) (v := ?_) (a' := ?_) (bs 27 393215) rfl rfl (take_ofW HT_.out HW_.out (by kernel_rfl)) (fun _ _ _ h => h) (Or.inl ⟨by rfl, ?_⟩) hHeld ?_ ?_
 rotate_left
 ·rintro w' ⟨s0, s1, s2, s3, s4, s5, s6, s7⟩
  go_simp
  with_reducible rfl
 rotate_left
 ·simp only [Act.put, sA, sB, sC, i64_w, i32_w]
  rfl
 refine pure_ (i := 17) (N := some 73) (v := ?_) (a' := ?_) (bs 27 524287) rfl rfl (any_of HT_.out (by kernel_rfl)) (fun _ _ _ h => h) (Or.inl ⟨by rfl, ?_⟩) ?_ ?_
 rotate_left
 ·intro w'
  go_simp
  with_reducible rfl
 rotate_left
 ·simp only [Act.put, sA, sB, sC, i64_w, i32_w]
  rfl
 refine pure_ (i := 19) (N := some 75) (v := ?_) (a' := ?_) (bs 27 1048575) rfl rfl (any_of HT_.out (by kernel_rfl)) (fun _ _ _ h => h) (Or.inl ⟨by rfl, ?_⟩) ?_ ?_
 rotate_left
 ·intro w'
  go_simp
  with_reducible rfl
 rotate_left
 ·simp only [Act.put, sA, sB, sC, i64_w, i32_w]
  rfl
 refine pure_ (i := 20) (N := some 76) (v := ?_) (a' := ?_) (bs 27 2097151) rfl rfl (any_of HT_.out (by kernel_rfl)) (fun _ _ _ h => h) (Or.inl ⟨by rfl, ?_⟩) ?_ ?_
 rotate_left
 ·intro w'
  go_simp
  with_reducible rfl
 rotate_left
 ·simp only [Act.put, sA, sB, sC, i64_w, i32_w]
  rfl
 refine pure_ (i := 21) (N := some 77) (v := ?_) (a' := ?_) (bs 27 4194303) rfl rfl (any_of HT_.out (by kernel_rfl)) (fun _ _ _ h => h) (Or.inl ⟨by rfl, ?_⟩) ?_ ?_
 rotate_left
 ·intro w'
  go_simp
  with_reducible rfl
 rotate_left
 ·simp only [Act.put, sA, sB, sC, i64_w, i32_w]
  rfl
 refine take_ (i := 22) (N := some 78) (v := ?_) (a' := ?_) (bs 27 8388607) rfl rfl (take_ofW HT_.out HW_.out (by kernel_rfl)) (fun _ _ _ h => h) (Or.inl ⟨by rfl, ?_⟩) hHeld ?_ ?_
 rotate_left
 ·rintro w' ⟨s0, s1, s2, s3, s4, s5, s6, s7⟩
  go_simp
  with_reducible rfl
 rotate_left
 ·simp only [Act.put, sA, sB, sC, i64_w, i32_w]
  rfl
 refine join_ (σ := Nat × Nat) 2 (bs 27 33554431) (fun s_ => [(13, .pointer (some ⟨s_.1, 0, none⟩)), (14, .pointer (some ⟨s_.2, 0, none⟩))]) (fun s_ w' => (w'.cell? ⟨G2, 0, none⟩ = some (.int .i64 a0_0) ∧ w'.cell? ⟨G2, 1, none⟩ = some (.int .i64 a0_1) ∧ w'.cell? ⟨G2, 2, none⟩ = some (.int .i64 a0_2) ∧ w'.cell? ⟨G2, 3, none⟩ = some (.slice (some G0) l0_3.length c0_3) ∧ w'.cell? (G0.add (((G1)).toNat * 2)) = some (.int .i64 ((rd_T28 l0_3 (G1)).f0)) ∧ w'.cell? ⟨(G0.add (((G1)).toNat * 2)).block, (G0.add (((G1)).toNat * 2)).off + 1, none⟩ = some (.int .i64 ((rd_T28 l0_3 (G1)).f1)) ∧ w'.cell? (G0.add (((G6)).toNat * 2)) = some (.int .i64 ((rd_T28 l0_3 (G6)).f0)) ∧ w'.cell? ⟨(G0.add (((G6)).toNat * 2)).block, (G0.add (((G6)).toNat * 2)).off + 1, none⟩ = some (.int .i64 ((rd_T28 l0_3 (G6)).f1))) ∧ (w'.heap[G2]? = some (.cells #[.int .i64 a0_0, .int .i64 a0_1, .int .i64 a0_2, .slice (some G0) l0_3.length c0_3] 24 (0, 0))) ∧ (w'.heap[G3]? = some (.cells #[.int .i64 0, .int .i64 0] 28 (0, 0))) ∧ (w'.heap[V5]? = some (.cells #[.int .i64 t120] 3 (0, 0))) ∧ (w'.heap[G7]? = some (.cells #[.int .i64 t123] 3 (0, 0))) ∧ (w'.heap[E5]? = some (.cells #[.int .i64 ((rd_T28 l0_3 (E3)).f0), .int .i64 ((rd_T28 l0_3 (E3)).f1)] 28 (0, 0))) ∧ (w'.heap[E6]? = some (.cells #[.int .i64 ((rd_T28 l0_3 (E7)).f0), .int .i64 ((rd_T28 l0_3 (E7)).f1)] 28 (0, 0))) ∧ (w'.heap[s_.1]? = some (.cells #[.int .i64 0, .int .i64 0] 28 (0, 0))) ∧ (w'.heap[s_.2]? = some (.cells #[.int .i64 0, .int .i64 0] 28 (0, 0))) ∧ (w.heap.size ≤ s_.1) ∧ (w.heap.size ≤ s_.1) ∧ (G2 ≠ s_.1) ∧ (s_.1 ≠ G2) ∧ (G3 ≠ s_.1) ∧ (s_.1 ≠ G3) ∧ (V5 ≠ s_.1) ∧ (s_.1 ≠ V5) ∧ (G7 ≠ s_.1) ∧ (s_.1 ≠ G7) ∧ (E5 ≠ s_.1) ∧ (s_.1 ≠ E5) ∧ (E6 ≠ s_.1) ∧ (s_.1 ≠ E6) ∧ (s_.2 ≠ s_.1) ∧ (s_.1 ≠ s_.2) ∧ (w.heap.size ≤ s_.2) ∧ (w.heap.size ≤ s_.2) ∧ (G2 ≠ s_.2) ∧ (s_.2 ≠ G2) ∧ (G3 ≠ s_.2) ∧ (s_.2 ≠ G3) ∧ (V5 ≠ s_.2) ∧ (s_.2 ≠ V5) ∧ (G7 ≠ s_.2) ∧ (s_.2 ≠ G7) ∧ (E5 ≠ s_.2) ∧ (s_.2 ≠ E5) ∧ (E6 ≠ s_.2) ∧ (s_.2 ≠ E6) ∧ (Below w.heap.size w w')) ?_ ?_
 rotate_left
 ·intro hCont
  refine two_ (i := 23) (j := 24) (Ni := some 13) (Nj := some 14) (bs 27 16777215) (bs 27 25165823) rfl rfl rfl rfl (two_of HT_.out (by kernel_rfl)) (by decide) (by decide) (fun K hK => ?_) (fun K hK => ?_)
  ·skip
   refine box_step ?hg (N := 13) ?hd (cs := #[.int .i64 0, .int .i64 0]) (t := 28) ?hr ?_; (case hd => rfl); (case hg => rfl); (case hr => first | (go_simp; done) | (go_simp; rfl))
   intro G4 hg w47 hbox hb
   have V2 := zg HB hg
   have L7 := zg HB hg
   have Y6 := zn E0 hg
   have L8 := zn' E0 hg
   have Z0 := zn E1 hg
   have Z7 := zn' E1 hg
   have Z8 := zn E2 hg
   have Q9 := zn' E2 hg
   have Z9 := zn E4 hg
   have E0a := zn' E4 hg
   have J0 := zn E8 hg
   have E0b := zn' E8 hg
   have J1 := zn E9 hg
   have E0c := zn' E9 hg
   have n0_ := Aside0.mk (hbox)
   replace E0 := zk E0 hb
   replace E1 := zk E1 hb
   replace E2 := zk E2 hb
   replace E4 := zk E4 hb
   replace E8 := zk E8 hb
   replace E9 := zk E9 hb
   replace HB := zb HB hb
   have V6 := n0_
   clear n0_
   clear hb hbox hg
   refine hK.out _ _ ⟨(blk_cell E0.out 0).trans rfl, (blk_cell E0.out 1).trans rfl, (blk_cell E0.out 2).trans rfl, (blk_cell E0.out 3).trans rfl, ((HB.out.cell (World.block_lt_of_cell? w _ Y3)).trans Y3), ((HB.out.cell (World.block_lt_of_cell? w _ Y2)).trans Y2), ((HB.out.cell (World.block_lt_of_cell? w _ Y5)).trans Y5), ((HB.out.cell (World.block_lt_of_cell? w _ Y4)).trans Y4)⟩ (fun hHeld => ?_)
   clear hK K
   refine norm_ (a' := ?_) ?_ ?_
   rotate_left
   ·show Act.put _ (some 13) _ = _
    simp only [Act.put, sA, sB, sC, i64_w, i32_w]
    rfl
   refine one_ (i := 24) (N := some 14) (bs 27 33554431) rfl rfl (one_of HT_.out (by kernel_rfl)) (by decide) (fun K hK => ?_)
   refine box_step ?hg (N := 14) ?hd (cs := #[.int .i64 0, .int .i64 0]) (t := 28) ?hr ?_; (case hd => rfl); (case hg => rfl); (case hr => first | (go_simp; done) | (go_simp; rfl))
   intro G5 hg w48 hbox hb
   have V3 := zg HB hg
   have L9 := zg HB hg
   have Y7 := zn E0 hg
   have Q0 := zn' E0 hg
   have Z1 := zn E1 hg
   have J2 := zn' E1 hg
   have J3 := zn E2 hg
   have E0d := zn' E2 hg
   have J4 := zn E4 hg
   have E0e := zn' E4 hg
   have J5 := zn E8 hg
   have E0f := zn' E8 hg
   have J6 := zn E9 hg
   have E0g := zn' E9 hg
   have Z2 := zn V6 hg
   have Z3 := zn' V6 hg
   have n0_ := Aside0.mk (hbox)
   replace E0 := zk E0 hb
   replace E1 := zk E1 hb
   replace E2 := zk E2 hb
   replace E4 := zk E4 hb
   replace E8 := zk E8 hb
   replace E9 := zk E9 hb
   replace V6 := zk V6 hb
   replace HB := zb HB hb
   have V7 := n0_
   clear n0_
   clear hb hbox hg
   refine hK.out _ _ ⟨(blk_cell E0.out 0).trans rfl, (blk_cell E0.out 1).trans rfl, (blk_cell E0.out 2).trans rfl, (blk_cell E0.out 3).trans rfl, ((HB.out.cell (World.block_lt_of_cell? w _ Y3)).trans Y3), ((HB.out.cell (World.block_lt_of_cell? w _ Y2)).trans Y2), ((HB.out.cell (World.block_lt_of_cell? w _ Y5)).trans Y5), ((HB.out.cell (World.block_lt_of_cell? w _ Y4)).trans Y4)⟩ (fun hHeld => ?_)
   clear hK K
   refine norm_ (a' := ?_) ?_ ?_
   rotate_left
   ·show Act.put _ (some 14) _ = _
    simp only [Act.put, sA, sB, sC, i64_w, i32_w]
    rfl
   exact norm_ (by simp only [putAll, Act.put, sA, sB, sC]) (hCont (G4, G5) _ ⟨hHeld, (by exact zk0 E0), (by exact zk0 E1), (by exact zk0 E2), (by exact zk0 E4), (by exact zk0 E8), (by exact zk0 E9), (by exact zk0 V6), (by exact zk0 V7), V2.out, L7.out, Y6.out, L8.out, Z0.out, Z7.out, Z8.out, Q9.out, Z9.out, E0a.out, J0.out, E0b.out, J1.out, E0c.out, Z3.out, Z2.out, V3.out, L9.out, Y7.out, Q0.out, Z1.out, J2.out, J3.out, E0d.out, J4.out, E0e.out, J5.out, E0f.out, J6.out, E0g.out, (by exact zb0 HB)⟩)
  ·skip
   refine box_step ?hg (N := 14) ?hd (cs := #[.int .i64 0, .int .i64 0]) (t := 28) ?hr ?_; (case hd => rfl); (case hg => rfl); (case hr => first | (go_simp; done) | (go_simp; rfl))
   intro G5 hg w47 hbox hb
   have V3 := zg HB hg
   have L9 := zg HB hg
   have Y7 := zn E0 hg
   have Q0 := zn' E0 hg
   have Z1 := zn E1 hg
   have J2 := zn' E1 hg
   have J3 := zn E2 hg
   have E0d := zn' E2 hg
   have J4 := zn E4 hg
   have E0e := zn' E4 hg
   have J5 := zn E8 hg
   have E0f := zn' E8 hg
   have J6 := zn E9 hg
   have E0g := zn' E9 hg
   have n0_ := Aside0.mk (hbox)
   replace E0 := zk E0 hb
   replace E1 := zk E1 hb
   replace E2 := zk E2 hb
   replace E4 := zk E4 hb
   replace E8 := zk E8 hb
   replace E9 := zk E9 hb
   replace HB := zb HB hb
   have V7 := n0_
   clear n0_
   clear hb hbox hg
   refine hK.out _ _ ⟨(blk_cell E0.out 0).trans rfl, (blk_cell E0.out 1).trans rfl, (blk_cell E0.out 2).trans rfl, (blk_cell E0.out 3).trans rfl, ((HB.out.cell (World.block_lt_of_cell? w _ Y3)).trans Y3), ((HB.out.cell (World.block_lt_of_cell? w _ Y2)).trans Y2), ((HB.out.cell (World.block_lt_of_cell? w _ Y5)).trans Y5), ((HB.out.cell (World.block_lt_of_cell? w _ Y4)).trans Y4)⟩ (fun hHeld => ?_)
   clear hK K
   refine norm_ (a' := ?_) ?_ ?_
   rotate_left
   ·show Act.put _ (some 14) _ = _
    simp only [Act.put, sA, sB, sC, i64_w, i32_w]
    rfl
   refine one_ (i := 23) (N := some 13) (bs 27 33554431) rfl rfl (one_of HT_.out (by kernel_rfl)) (by decide) (fun K hK => ?_)
   refine box_step ?hg (N := 13) ?hd (cs := #[.int .i64 0, .int .i64 0]) (t := 28) ?hr ?_; (case hd => rfl); (case hg => rfl); (case hr => first | (go_simp; done) | (go_simp; rfl))
   intro G4 hg w48 hbox hb
   have V2 := zg HB hg
   have L7 := zg HB hg
   have Y6 := zn E0 hg
   have L8 := zn' E0 hg
   have Z0 := zn E1 hg
   have Z7 := zn' E1 hg
   have Z8 := zn E2 hg
   have Q9 := zn' E2 hg
   have Z9 := zn E4 hg
   have E0a := zn' E4 hg
   have J0 := zn E8 hg
   have E0b := zn' E8 hg
   have J1 := zn E9 hg
   have E0c := zn' E9 hg
   have Z3 := zn V7 hg
   have Z2 := zn' V7 hg
   have n0_ := Aside0.mk (hbox)
   replace E0 := zk E0 hb
   replace E1 := zk E1 hb
   replace E2 := zk E2 hb
   replace E4 := zk E4 hb
   replace E8 := zk E8 hb
   replace E9 := zk E9 hb
   replace V7 := zk V7 hb
   replace HB := zb HB hb
   have V6 := n0_
   clear n0_
   clear hb hbox hg
   refine hK.out _ _ ⟨(blk_cell E0.out 0).trans rfl, (blk_cell E0.out 1).trans rfl, (blk_cell E0.out 2).trans rfl, (blk_cell E0.out 3).trans rfl, ((HB.out.cell (World.block_lt_of_cell? w _ Y3)).trans Y3), ((HB.out.cell (World.block_lt_of_cell? w _ Y2)).trans Y2), ((HB.out.cell (World.block_lt_of_cell? w _ Y5)).trans Y5), ((HB.out.cell (World.block_lt_of_cell? w _ Y4)).trans Y4)⟩ (fun hHeld => ?_)
   clear hK K
   refine norm_ (a' := ?_) ?_ ?_
   rotate_left
   ·show Act.put _ (some 13) _ = _
    simp only [Act.put, sA, sB, sC, i64_w, i32_w]
    rfl
   exact norm_ (by simp only [putAll, Act.put, sA, sB, sC]) (hCont (G4, G5) _ ⟨hHeld, (by exact zk0 E0), (by exact zk0 E1), (by exact zk0 E2), (by exact zk0 E4), (by exact zk0 E8), (by exact zk0 E9), (by exact zk0 V6), (by exact zk0 V7), V2.out, L7.out, Y6.out, L8.out, Z0.out, Z7.out, Z8.out, Q9.out, Z9.out, E0a.out, J0.out, E0b.out, J1.out, E0c.out, Z3.out, Z2.out, V3.out, L9.out, Y7.out, Q0.out, Z1.out, J2.out, J3.out, E0d.out, J4.out, E0e.out, J5.out, E0f.out, J6.out, E0g.out, (by exact zb0 HB)⟩)
 rintro ⟨G4, G5⟩ w49 ⟨hS_, h0_, h1_, h2_, h3_, h4_, h5_, h6_, h7_, h8_, h9_, h10_, h11_, h12_, h13_, h14_, h15_, h16_, h17_, h18_, h19_, h20_, h21_, h22_, h23_, h24_, h25_, h26_, h27_, h28_, h29_, h30_, h31_, h32_, h33_, h34_, h35_, h36_, h37_, h38_⟩
 have n0_ : Aside0 (w49.heap[G2]? = some (.cells #[.int .i64 a0_0, .int .i64 a0_1, .int .i64 a0_2, .slice (some G0) l0_3.length c0_3] 24 (0, 0))) := ⟨h0_⟩
 have n1_ : Aside0 (w49.heap[G3]? = some (.cells #[.int .i64 0, .int .i64 0] 28 (0, 0))) := ⟨h1_⟩
 have n2_ : Aside0 (w49.heap[V5]? = some (.cells #[.int .i64 t120] 3 (0, 0))) := ⟨h2_⟩
 have n3_ : Aside0 (w49.heap[G7]? = some (.cells #[.int .i64 t123] 3 (0, 0))) := ⟨h3_⟩
 have n4_ : Aside0 (w49.heap[E5]? = some (.cells #[.int .i64 ((rd_T28 l0_3 (E3)).f0), .int .i64 ((rd_T28 l0_3 (E3)).f1)] 28 (0, 0))) := ⟨h4_⟩
 have n5_ : Aside0 (w49.heap[E6]? = some (.cells #[.int .i64 ((rd_T28 l0_3 (E7)).f0), .int .i64 ((rd_T28 l0_3 (E7)).f1)] 28 (0, 0))) := ⟨h5_⟩
 have n6_ : Aside0 (w49.heap[G4]? = some (.cells #[.int .i64 0, .int .i64 0] 28 (0, 0))) := ⟨h6_⟩
 have n7_ : Aside0 (w49.heap[G5]? = some (.cells #[.int .i64 0, .int .i64 0] 28 (0, 0))) := ⟨h7_⟩
 have n8_ : Aside0 (w.heap.size ≤ G4) := ⟨h8_⟩
 have n9_ : Aside0 (w.heap.size ≤ G4) := ⟨h9_⟩
 have n10_ : Aside0 (G2 ≠ G4) := ⟨h10_⟩
 have n11_ : Aside0 (G4 ≠ G2) := ⟨h11_⟩
 have n12_ : Aside0 (G3 ≠ G4) := ⟨h12_⟩
 have n13_ : Aside0 (G4 ≠ G3) := ⟨h13_⟩
 have n14_ : Aside0 (V5 ≠ G4) := ⟨h14_⟩
 have n15_ : Aside0 (G4 ≠ V5) := ⟨h15_⟩
 have n16_ : Aside0 (G7 ≠ G4) := ⟨h16_⟩
 have n17_ : Aside0 (G4 ≠ G7) := ⟨h17_⟩
 have n18_ : Aside0 (E5 ≠ G4) := ⟨h18_⟩
 have n19_ : Aside0 (G4 ≠ E5) := ⟨h19_⟩
 have n20_ : Aside0 (E6 ≠ G4) := ⟨h20_⟩
 have n21_ : Aside0 (G4 ≠ E6) := ⟨h21_⟩
 have n22_ : Aside0 (G5 ≠ G4) := ⟨h22_⟩
 have n23_ : Aside0 (G4 ≠ G5) := ⟨h23_⟩
 have n24_ : Aside0 (w.heap.size ≤ G5) := ⟨h24_⟩
 have n25_ : Aside0 (w.heap.size ≤ G5) := ⟨h25_⟩
 have n26_ : Aside0 (G2 ≠ G5) := ⟨h26_⟩
 have n27_ : Aside0 (G5 ≠ G2) := ⟨h27_⟩
 have n28_ : Aside0 (G3 ≠ G5) := ⟨h28_⟩
 have n29_ : Aside0 (G5 ≠ G3) := ⟨h29_⟩
 have n30_ : Aside0 (V5 ≠ G5) := ⟨h30_⟩
 have n31_ : Aside0 (G5 ≠ V5) := ⟨h31_⟩
 have n32_ : Aside0 (G7 ≠ G5) := ⟨h32_⟩
 have n33_ : Aside0 (G5 ≠ G7) := ⟨h33_⟩
 have n34_ : Aside0 (E5 ≠ G5) := ⟨h34_⟩
 have n35_ : Aside0 (G5 ≠ E5) := ⟨h35_⟩
 have n36_ : Aside0 (E6 ≠ G5) := ⟨h36_⟩
 have n37_ : Aside0 (G5 ≠ E6) := ⟨h37_⟩
 have n38_ : Aside0 (Below w.heap.size w w49) := ⟨h38_⟩
 clear E0
 clear E1
 clear E2
 clear E4
 clear E8
 clear E9
 clear HB
 clear h0_ h1_ h2_ h3_ h4_ h5_ h6_ h7_ h8_ h9_ h10_ h11_ h12_ h13_ h14_ h15_ h16_ h17_ h18_ h19_ h20_ h21_ h22_ h23_ h24_ h25_ h26_ h27_ h28_ h29_ h30_ h31_ h32_ h33_ h34_ h35_ h36_ h37_ h38_
 have E0 := n0_
 have E1 := n1_
 have E2 := n2_
 have E4 := n3_
 have E8 := n4_
 have E9 := n5_
 have V6 := n6_
 have V7 := n7_
 have V2 := n8_
 have L7 := n9_
 have Y6 := n10_
 have L8 := n11_
 have Z0 := n12_
 have Z7 := n13_
 have Z8 := n14_
 have Q9 := n15_
 have Z9 := n16_
 have E0a := n17_
 have J0 := n18_
 have E0b := n19_
 have J1 := n20_
 have E0c := n21_
 have Z3 := n22_
 have Z2 := n23_
 have V3 := n24_
 have L9 := n25_
 have Y7 := n26_
 have Q0 := n27_
 have Z1 := n28_
 have J2 := n29_
 have J3 := n30_
 have E0d := n31_
 have J4 := n32_
 have E0e := n33_
 have J5 := n34_
 have E0f := n35_
 have J6 := n36_
 have E0g := n37_
 have HB := n38_
 clear n0_ n1_ n2_ n3_ n4_ n5_ n6_ n7_ n8_ n9_ n10_ n11_ n12_ n13_ n14_ n15_ n16_ n17_ n18_ n19_ n20_ n21_ n22_ n23_ n24_ n25_ n26_ n27_ n28_ n29_ n30_ n31_ n32_ n33_ n34_ n35_ n36_ n37_ n38_
 have hHeld : w49.cell? ⟨G2, 0, none⟩ = some (.int .i64 a0_0) ∧ w49.cell? ⟨G2, 1, none⟩ = some (.int .i64 a0_1) ∧ w49.cell? ⟨G2, 2, none⟩ = some (.int .i64 a0_2) ∧ w49.cell? ⟨G2, 3, none⟩ = some (.slice (some G0) l0_3.length c0_3) ∧ w49.cell? (G0.add (((G1)).toNat * 2)) = some (.int .i64 ((rd_T28 l0_3 (G1)).f0)) ∧ w49.cell? ⟨(G0.add (((G1)).toNat * 2)).block, (G0.add (((G1)).toNat * 2)).off + 1, none⟩ = some (.int .i64 ((rd_T28 l0_3 (G1)).f1)) ∧ w49.cell? (G0.add (((G6)).toNat * 2)) = some (.int .i64 ((rd_T28 l0_3 (G6)).f0)) ∧ w49.cell? ⟨(G0.add (((G6)).toNat * 2)).block, (G0.add (((G6)).toNat * 2)).off + 1, none⟩ = some (.int .i64 ((rd_T28 l0_3 (G6)).f1)) := hS_
 refine norm_ (a' := ?_) ?_ ?_
 rotate_left
 ·simp only [putAll, Act.put, sA, sB, sC]
  rfl
 refine one_ (i := 25) (N := none) (bs 27 67108863) rfl rfl (one_of HT_.out (by kernel_rfl)) (by decide) (fun K hK => ?_)
 have hs50 : w49.cell? ⟨G4, 0, none⟩ = some (.int .i64 0) := (blk_cell V6.out 0).trans rfl
 have hfs50 := blk_frozen V6.out 0
 have E2N := Y6.out
 have E2O := Z0.out
 have E2P := Z8.out
 have E2Q := Z9.out
 have E2R := J0.out
 have E2S := J1.out
 have E2T := Z3.out
 have E2U := L8.out
 have E2V := Z7.out
 have E2W := Q9.out
 have E2X := E0a.out
 have E2Y := E0b.out
 have E2Z := E0c.out
 have E3a := Z2.out
 have hs51 : w49.cell? ⟨G4, 1, none⟩ = some (.int .i64 0) := (blk_cell V6.out 1).trans rfl
 have hfs51 := blk_frozen V6.out 1
 have E3b := Y6.out
 have E3c := Z0.out
 have E3d := Z8.out
 have E3e := Z9.out
 have E3f := J0.out
 have E3g := J1.out
 have E3h := Z3.out
 have E3i := L8.out
 have E3j := Z7.out
 have E3k := Q9.out
 have E3l := E0a.out
 have E3m := E0b.out
 have E3n := E0c.out
 have E3o := Z2.out
 refine skip_ (w1 := ?_) (by rfl) rfl ?_ ?_
 rotate_left
 ·go_simp
  rfl
 refine hK.out _ _ ⟨((cell_far (p := ⟨G4, _, none⟩) Y6.out _).trans (((cell_far (p := ⟨G4, _, none⟩) Y6.out _).trans (hHeld.1)))), ((cell_far (p := ⟨G4, _, none⟩) Y6.out _).trans (((cell_far (p := ⟨G4, _, none⟩) Y6.out _).trans (hHeld.2.1)))), ((cell_far (p := ⟨G4, _, none⟩) Y6.out _).trans (((cell_far (p := ⟨G4, _, none⟩) Y6.out _).trans (hHeld.2.2.1)))), ((cell_far (p := ⟨G4, _, none⟩) Y6.out _).trans (((cell_far (p := ⟨G4, _, none⟩) Y6.out _).trans (hHeld.2.2.2.1)))), ((cell_far (p := ⟨G4, _, none⟩) (by first | exact Nat.ne_of_lt (Nat.lt_of_lt_of_le (by have := World.block_lt_of_cell? _ _ Y3; first | rwa [add_block] at this | exact this) V2.out) | (rw [add_block]; exact Nat.ne_of_lt (Nat.lt_of_lt_of_le (by have := World.block_lt_of_cell? _ _ Y3; first | rwa [add_block] at this | exact this) V2.out)) | (show (Addr.add _ _).block ≠ _; rw [add_block]; exact Nat.ne_of_lt (Nat.lt_of_lt_of_le (by have := World.block_lt_of_cell? _ _ Y3; first | rwa [add_block] at this | exact this) V2.out)) | (dsimp only; exact Nat.ne_of_lt (Nat.lt_of_lt_of_le (by have := World.block_lt_of_cell? _ _ Y3; first | rwa [add_block] at this | exact this) V2.out))) _).trans (((cell_far (p := ⟨G4, _, none⟩) (by first | exact Nat.ne_of_lt (Nat.lt_of_lt_of_le (by have := World.block_lt_of_cell? _ _ Y3; first | rwa [add_block] at this | exact this) V2.out) | (rw [add_block]; exact Nat.ne_of_lt (Nat.lt_of_lt_of_le (by have := World.block_lt_of_cell? _ _ Y3; first | rwa [add_block] at this | exact this) V2.out)) | (show (Addr.add _ _).block ≠ _; rw [add_block]; exact Nat.ne_of_lt (Nat.lt_of_lt_of_le (by have := World.block_lt_of_cell? _ _ Y3; first | rwa [add_block] at this | exact this) V2.out)) | (dsimp only; exact Nat.ne_of_lt (Nat.lt_of_lt_of_le (by have := World.block_lt_of_cell? _ _ Y3; first | rwa [add_block] at this | exact this) V2.out))) _).trans (hHeld.2.2.2.2.1)))), ((cell_far (p := ⟨G4, _, none⟩) (by first | exact Nat.ne_of_lt (Nat.lt_of_lt_of_le (by have := World.block_lt_of_cell? _ _ Y2; first | rwa [add_block] at this | exact this) V2.out) | (rw [add_block]; exact Nat.ne_of_lt (Nat.lt_of_lt_of_le (by have := World.block_lt_of_cell? _ _ Y2; first | rwa [add_block] at this | exact this) V2.out)) | (show (Addr.add _ _).block ≠ _; rw [add_block]; exact Nat.ne_of_lt (Nat.lt_of_lt_of_le (by have := World.block_lt_of_cell? _ _ Y2; first | rwa [add_block] at this | exact this) V2.out)) | (dsimp only; exact Nat.ne_of_lt (Nat.lt_of_lt_of_le (by have := World.block_lt_of_cell? _ _ Y2; first | rwa [add_block] at this | exact this) V2.out))) _).trans (((cell_far (p := ⟨G4, _, none⟩) (by first | exact Nat.ne_of_lt (Nat.lt_of_lt_of_le (by have := World.block_lt_of_cell? _ _ Y2; first | rwa [add_block] at this | exact this) V2.out) | (rw [add_block]; exact Nat.ne_of_lt (Nat.lt_of_lt_of_le (by have := World.block_lt_of_cell? _ _ Y2; first | rwa [add_block] at this | exact this) V2.out)) | (show (Addr.add _ _).block ≠ _; rw [add_block]; exact Nat.ne_of_lt (Nat.lt_of_lt_of_le (by have := World.block_lt_of_cell? _ _ Y2; first | rwa [add_block] at this | exact this) V2.out)) | (dsimp only; exact Nat.ne_of_lt (Nat.lt_of_lt_of_le (by have := World.block_lt_of_cell? _ _ Y2; first | rwa [add_block] at this | exact this) V2.out))) _).trans (hHeld.2.2.2.2.2.1)))), ((cell_far (p := ⟨G4, _, none⟩) (by first | exact Nat.ne_of_lt (Nat.lt_of_lt_of_le (by have := World.block_lt_of_cell? _ _ Y5; first | rwa [add_block] at this | exact this) V2.out) | (rw [add_block]; exact Nat.ne_of_lt (Nat.lt_of_lt_of_le (by have := World.block_lt_of_cell? _ _ Y5; first | rwa [add_block] at this | exact this) V2.out)) | (show (Addr.add _ _).block ≠ _; rw [add_block]; exact Nat.ne_of_lt (Nat.lt_of_lt_of_le (by have := World.block_lt_of_cell? _ _ Y5; first | rwa [add_block] at this | exact this) V2.out)) | (dsimp only; exact Nat.ne_of_lt (Nat.lt_of_lt_of_le (by have := World.block_lt_of_cell? _ _ Y5; first | rwa [add_block] at this | exact this) V2.out))) _).trans (((cell_far (p := ⟨G4, _, none⟩) (by first | exact Nat.ne_of_lt (Nat.lt_of_lt_of_le (by have := World.block_lt_of_cell? _ _ Y5; first | rwa [add_block] at this | exact this) V2.out) | (rw [add_block]; exact Nat.ne_of_lt (Nat.lt_of_lt_of_le (by have := World.block_lt_of_cell? _ _ Y5; first | rwa [add_block] at this | exact this) V2.out)) | (show (Addr.add _ _).block ≠ _; rw [add_block]; exact Nat.ne_of_lt (Nat.lt_of_lt_of_le (by have := World.block_lt_of_cell? _ _ Y5; first | rwa [add_block] at this | exact this) V2.out)) | (dsimp only; exact Nat.ne_of_lt (Nat.lt_of_lt_of_le (by have := World.block_lt_of_cell? _ _ Y5; first | rwa [add_block] at this | exact this) V2.out))) _).trans (hHeld.2.2.2.2.2.2.1)))), ((cell_far (p := ⟨G4, _, none⟩) (by first | exact Nat.ne_of_lt (Nat.lt_of_lt_of_le (by have := World.block_lt_of_cell? _ _ Y4; first | rwa [add_block] at this | exact this) V2.out) | (rw [add_block]; exact Nat.ne_of_lt (Nat.lt_of_lt_of_le (by have := World.block_lt_of_cell? _ _ Y4; first | rwa [add_block] at this | exact this) V2.out)) | (show (Addr.add _ _).block ≠ _; rw [add_block]; exact Nat.ne_of_lt (Nat.lt_of_lt_of_le (by have := World.block_lt_of_cell? _ _ Y4; first | rwa [add_block] at this | exact this) V2.out)) | (dsimp only; exact Nat.ne_of_lt (Nat.lt_of_lt_of_le (by have := World.block_lt_of_cell? _ _ Y4; first | rwa [add_block] at this | exact this) V2.out))) _).trans (((cell_far (p := ⟨G4, _, none⟩) (by first | exact Nat.ne_of_lt (Nat.lt_of_lt_of_le (by have := World.block_lt_of_cell? _ _ Y4; first | rwa [add_block] at this | exact this) V2.out) | (rw [add_block]; exact Nat.ne_of_lt (Nat.lt_of_lt_of_le (by have := World.block_lt_of_cell? _ _ Y4; first | rwa [add_block] at this | exact this) V2.out)) | (show (Addr.add _ _).block ≠ _; rw [add_block]; exact Nat.ne_of_lt (Nat.lt_of_lt_of_le (by have := World.block_lt_of_cell? _ _ Y4; first | rwa [add_block] at this | exact this) V2.out)) | (dsimp only; exact Nat.ne_of_lt (Nat.lt_of_lt_of_le (by have := World.block_lt_of_cell? _ _ Y4; first | rwa [add_block] at this | exact this) V2.out))) _).trans (hHeld.2.2.2.2.2.2.2))))⟩ (fun hHeld => ?_)
 clear hK K
 refine one_ (i := 26) (N := none) (bs 27 134217727) rfl rfl (one_of HT_.out (by kernel_rfl)) (by decide) (fun K hK => ?_)
 have hs52 : w49.cell? ⟨G5, 0, none⟩ = some (.int .i64 0) := (blk_cell V7.out 0).trans rfl
 have hfs52 := blk_frozen V7.out 0
 have E3p := Y7.out
 have E3q := Z1.out
 have E3r := J3.out
 have E3s := J4.out
 have E3t := J5.out
 have E3u := J6.out
 have E3v := Z2.out
 have E3w := Q0.out
 have E3x := J2.out
 have E3y := E0d.out
 have E3z := E0e.out
 have E3A := E0f.out
 have E3B := E0g.out
 have E3C := Z3.out
 have hs53 : w49.cell? ⟨G5, 1, none⟩ = some (.int .i64 0) := (blk_cell V7.out 1).trans rfl
 have hfs53 := blk_frozen V7.out 1
 have E3D := Y7.out
 have E3E := Z1.out
 have E3F := J3.out
 have E3G := J4.out
 have E3H := J5.out
 have E3I := J6.out
 have E3J := Z2.out
 have E3K := Q0.out
 have E3L := J2.out
 have E3M := E0d.out
 have E3N := E0e.out
 have E3O := E0f.out
 have E3P := E0g.out
 have E3Q := Z3.out
 refine skip_ (w1 := ?_) (by rfl) rfl ?_ ?_
 rotate_left
 ·go_simp
  rfl
 refine hK.out _ _ ⟨((cell_far (p := ⟨G5, _, none⟩) Y7.out _).trans (((cell_far (p := ⟨G5, _, none⟩) Y7.out _).trans (hHeld.1)))), ((cell_far (p := ⟨G5, _, none⟩) Y7.out _).trans (((cell_far (p := ⟨G5, _, none⟩) Y7.out _).trans (hHeld.2.1)))), ((cell_far (p := ⟨G5, _, none⟩) Y7.out _).trans (((cell_far (p := ⟨G5, _, none⟩) Y7.out _).trans (hHeld.2.2.1)))), ((cell_far (p := ⟨G5, _, none⟩) Y7.out _).trans (((cell_far (p := ⟨G5, _, none⟩) Y7.out _).trans (hHeld.2.2.2.1)))), ((cell_far (p := ⟨G5, _, none⟩) (by first | exact Nat.ne_of_lt (Nat.lt_of_lt_of_le (by have := World.block_lt_of_cell? _ _ Y3; first | rwa [add_block] at this | exact this) V3.out) | (rw [add_block]; exact Nat.ne_of_lt (Nat.lt_of_lt_of_le (by have := World.block_lt_of_cell? _ _ Y3; first | rwa [add_block] at this | exact this) V3.out)) | (show (Addr.add _ _).block ≠ _; rw [add_block]; exact Nat.ne_of_lt (Nat.lt_of_lt_of_le (by have := World.block_lt_of_cell? _ _ Y3; first | rwa [add_block] at this | exact this) V3.out)) | (dsimp only; exact Nat.ne_of_lt (Nat.lt_of_lt_of_le (by have := World.block_lt_of_cell? _ _ Y3; first | rwa [add_block] at this | exact this) V3.out))) _).trans (((cell_far (p := ⟨G5, _, none⟩) (by first | exact Nat.ne_of_lt (Nat.lt_of_lt_of_le (by have := World.block_lt_of_cell? _ _ Y3; first | rwa [add_block] at this | exact this) V3.out) | (rw [add_block]; exact Nat.ne_of_lt (Nat.lt_of_lt_of_le (by have := World.block_lt_of_cell? _ _ Y3; first | rwa [add_block] at this | exact this) V3.out)) | (show (Addr.add _ _).block ≠ _; rw [add_block]; exact Nat.ne_of_lt (Nat.lt_of_lt_of_le (by have := World.block_lt_of_cell? _ _ Y3; first | rwa [add_block] at this | exact this) V3.out)) | (dsimp only; exact Nat.ne_of_lt (Nat.lt_of_lt_of_le (by have := World.block_lt_of_cell? _ _ Y3; first | rwa [add_block] at this | exact this) V3.out))) _).trans (hHeld.2.2.2.2.1)))), ((cell_far (p := ⟨G5, _, none⟩) (by first | exact Nat.ne_of_lt (Nat.lt_of_lt_of_le (by have := World.block_lt_of_cell? _ _ Y2; first | rwa [add_block] at this | exact this) V3.out) | (rw [add_block]; exact Nat.ne_of_lt (Nat.lt_of_lt_of_le (by have := World.block_lt_of_cell? _ _ Y2; first | rwa [add_block] at this | exact this) V3.out)) | (show (Addr.add _ _).block ≠ _; rw [add_block]; exact Nat.ne_of_lt (Nat.lt_of_lt_of_le (by have := World.block_lt_of_cell? _ _ Y2; first | rwa [add_block] at this | exact this) V3.out)) | (dsimp only; exact Nat.ne_of_lt (Nat.lt_of_lt_of_le (by have := World.block_lt_of_cell? _ _ Y2; first | rwa [add_block] at this | exact this) V3.out))) _).trans (((cell_far (p := ⟨G5, _, none⟩) (by first | exact Nat.ne_of_lt (Nat.lt_of_lt_of_le (by have := World.block_lt_of_cell? _ _ Y2; first | rwa [add_block] at this | exact this) V3.out) | (rw [add_block]; exact Nat.ne_of_lt (Nat.lt_of_lt_of_le (by have := World.block_lt_of_cell? _ _ Y2; first | rwa [add_block] at this | exact this) V3.out)) | (show (Addr.add _ _).block ≠ _; rw [add_block]; exact Nat.ne_of_lt (Nat.lt_of_lt_of_le (by have := World.block_lt_of_cell? _ _ Y2; first | rwa [add_block] at this | exact this) V3.out)) | (dsimp only; exact Nat.ne_of_lt (Nat.lt_of_lt_of_le (by have := World.block_lt_of_cell? _ _ Y2; first | rwa [add_block] at this | exact this) V3.out))) _).trans (hHeld.2.2.2.2.2.1)))), ((cell_far (p := ⟨G5, _, none⟩) (by first | exact Nat.ne_of_lt (Nat.lt_of_lt_of_le (by have := World.block_lt_of_cell? _ _ Y5; first | rwa [add_block] at this | exact this) V3.out) | (rw [add_block]; exact Nat.ne_of_lt (Nat.lt_of_lt_of_le (by have := World.block_lt_of_cell? _ _ Y5; first | rwa [add_block] at this | exact this) V3.out)) | (show (Addr.add _ _).block ≠ _; rw [add_block]; exact Nat.ne_of_lt (Nat.lt_of_lt_of_le (by have := World.block_lt_of_cell? _ _ Y5; first | rwa [add_block] at this | exact this) V3.out)) | (dsimp only; exact Nat.ne_of_lt (Nat.lt_of_lt_of_le (by have := World.block_lt_of_cell? _ _ Y5; first | rwa [add_block] at this | exact this) V3.out))) _).trans (((cell_far (p := ⟨G5, _, none⟩) (by first | exact Nat.ne_of_lt (Nat.lt_of_lt_of_le (by have := World.block_lt_of_cell? _ _ Y5; first | rwa [add_block] at this | exact this) V3.out) | (rw [add_block]; exact Nat.ne_of_lt (Nat.lt_of_lt_of_le (by have := World.block_lt_of_cell? _ _ Y5; first | rwa [add_block] at this | exact this) V3.out)) | (show (Addr.add _ _).block ≠ _; rw [add_block]; exact Nat.ne_of_lt (Nat.lt_of_lt_of_le (by have := World.block_lt_of_cell? _ _ Y5; first | rwa [add_block] at this | exact this) V3.out)) | (dsimp only; exact Nat.ne_of_lt (Nat.lt_of_lt_of_le (by have := World.block_lt_of_cell? _ _ Y5; first | rwa [add_block] at this | exact this) V3.out))) _).trans (hHeld.2.2.2.2.2.2.1)))), ((cell_far (p := ⟨G5, _, none⟩) (by first | exact Nat.ne_of_lt (Nat.lt_of_lt_of_le (by have := World.block_lt_of_cell? _ _ Y4; first | rwa [add_block] at this | exact this) V3.out) | (rw [add_block]; exact Nat.ne_of_lt (Nat.lt_of_lt_of_le (by have := World.block_lt_of_cell? _ _ Y4; first | rwa [add_block] at this | exact this) V3.out)) | (show (Addr.add _ _).block ≠ _; rw [add_block]; exact Nat.ne_of_lt (Nat.lt_of_lt_of_le (by have := World.block_lt_of_cell? _ _ Y4; first | rwa [add_block] at this | exact this) V3.out)) | (dsimp only; exact Nat.ne_of_lt (Nat.lt_of_lt_of_le (by have := World.block_lt_of_cell? _ _ Y4; first | rwa [add_block] at this | exact this) V3.out))) _).trans (((cell_far (p := ⟨G5, _, none⟩) (by first | exact Nat.ne_of_lt (Nat.lt_of_lt_of_le (by have := World.block_lt_of_cell? _ _ Y4; first | rwa [add_block] at this | exact this) V3.out) | (rw [add_block]; exact Nat.ne_of_lt (Nat.lt_of_lt_of_le (by have := World.block_lt_of_cell? _ _ Y4; first | rwa [add_block] at this | exact this) V3.out)) | (show (Addr.add _ _).block ≠ _; rw [add_block]; exact Nat.ne_of_lt (Nat.lt_of_lt_of_le (by have := World.block_lt_of_cell? _ _ Y4; first | rwa [add_block] at this | exact this) V3.out)) | (dsimp only; exact Nat.ne_of_lt (Nat.lt_of_lt_of_le (by have := World.block_lt_of_cell? _ _ Y4; first | rwa [add_block] at this | exact this) V3.out))) _).trans (hHeld.2.2.2.2.2.2.2))))⟩ (fun hHeld => ?_)
 clear hK K
 refine done_ (done_of HT_.out (by kernel_rfl)) ?_
 have E3R := Y8.out
 have E3S := L5.out
 have E3T := Y9.out
 have E3U := L6.out
 have E3V := Y6.out
 have E3W := L8.out
 have E3X := Y7.out
 have E3Y := Q0.out
 obtain ⟨E3Z, E4a, E4b, E4c, E4d, E4e, E4f, E4g⟩ := zq4 E0
 try go_wp2_with (first | ((with_reducible refine gate_dst (N := 15) rfl ?_); refine box_event ?hg (N := 15) ?hd (cs := #[.int .i64 0]) (t := 3) ?hr ?_; (case hd => rfl); (case hg => rfl); (case hr => first | (go_simp; done) | (go_simp; rfl)); intro V4 hg w59 hbox hb; have n0_ := Aside0.mk (blk_below (g := G2) (o := .cells #[.int .i64 a0_0, .int .i64 a0_1, .int .i64 a0_2, .slice (some G0) l0_3.length c0_3] 24 (0, 0)) (by (with_reducible repeat (first | refine blk_drewN ?_ _ | refine blk_drew ?_ | refine blk_alloc ?_ _)); refine blk_far ?_ Y7.out _; (with_reducible repeat (first | refine blk_drewN ?_ _ | refine blk_drew ?_ | refine blk_alloc ?_ _)); refine blk_far ?_ Y7.out _; (with_reducible repeat (first | refine blk_drewN ?_ _ | refine blk_drew ?_ | refine blk_alloc ?_ _)); refine blk_far ?_ Y6.out _; (with_reducible repeat (first | refine blk_drewN ?_ _ | refine blk_drew ?_ | refine blk_alloc ?_ _)); refine blk_far ?_ Y6.out _; (with_reducible repeat (first | refine blk_drewN ?_ _ | refine blk_drew ?_ | refine blk_alloc ?_ _)); exact E0.out) hb); have n1_ := Aside0.mk (blk_below (g := G3) (o := .cells #[.int .i64 0, .int .i64 0] 28 (0, 0)) (by (with_reducible repeat (first | refine blk_drewN ?_ _ | refine blk_drew ?_ | refine blk_alloc ?_ _)); refine blk_far ?_ Z1.out _; (with_reducible repeat (first | refine blk_drewN ?_ _ | refine blk_drew ?_ | refine blk_alloc ?_ _)); refine blk_far ?_ Z1.out _; (with_reducible repeat (first | refine blk_drewN ?_ _ | refine blk_drew ?_ | refine blk_alloc ?_ _)); refine blk_far ?_ Z0.out _; (with_reducible repeat (first | refine blk_drewN ?_ _ | refine blk_drew ?_ | refine blk_alloc ?_ _)); refine blk_far ?_ Z0.out _; (with_reducible repeat (first | refine blk_drewN ?_ _ | refine blk_drew ?_ | refine blk_alloc ?_ _)); exact E1.out) hb); have n2_ := Aside0.mk (blk_below (g := V5) (o := .cells #[.int .i64 t120] 3 (0, 0)) (by (with_reducible repeat (first | refine blk_drewN ?_ _ | refine blk_drew ?_ | refine blk_alloc ?_ _)); refine blk_far ?_ J3.out _; (with_reducible repeat (first | refine blk_drewN ?_ _ | refine blk_drew ?_ | refine blk_alloc ?_ _)); refine blk_far ?_ J3.out _; (with_reducible repeat (first | refine blk_drewN ?_ _ | refine blk_drew ?_ | refine blk_alloc ?_ _)); refine blk_far ?_ Z8.out _; (with_reducible repeat (first | refine blk_drewN ?_ _ | refine blk_drew ?_ | refine blk_alloc ?_ _)); refine blk_far ?_ Z8.out _; (with_reducible repeat (first | refine blk_drewN ?_ _ | refine blk_drew ?_ | refine blk_alloc ?_ _)); exact E2.out) hb); have n3_ := Aside0.mk (blk_below (g := G7) (o := .cells #[.int .i64 t123] 3 (0, 0)) (by (with_reducible repeat (first | refine blk_drewN ?_ _ | refine blk_drew ?_ | refine blk_alloc ?_ _)); refine blk_far ?_ J4.out _; (with_reducible repeat (first | refine blk_drewN ?_ _ | refine blk_drew ?_ | refine blk_alloc ?_ _)); refine blk_far ?_ J4.out _; (with_reducible repeat (first | refine blk_drewN ?_ _ | refine blk_drew ?_ | refine blk_alloc ?_ _)); refine blk_far ?_ Z9.out _; (with_reducible repeat (first | refine blk_drewN ?_ _ | refine blk_drew ?_ | refine blk_alloc ?_ _)); refine blk_far ?_ Z9.out _; (with_reducible repeat (first | refine blk_drewN ?_ _ | refine blk_drew ?_ | refine blk_alloc ?_ _)); exact E4.out) hb); have n4_ := Aside0.mk (blk_below (g := E5) (o := .cells #[.int .i64 ((rd_T28 l0_3 (E3)).f0), .int .i64 ((rd_T28 l0_3 (E3)).f1)] 28 (0, 0)) (by (with_reducible repeat (first | refine blk_drewN ?_ _ | refine blk_drew ?_ | refine blk_alloc ?_ _)); refine blk_far ?_ J5.out _; (with_reducible repeat (first | refine blk_drewN ?_ _ | refine blk_drew ?_ | refine blk_alloc ?_ _)); refine blk_far ?_ J5.out _; (with_reducible repeat (first | refine blk_drewN ?_ _ | refine blk_drew ?_ | refine blk_alloc ?_ _)); refine blk_far ?_ J0.out _; (with_reducible repeat (first | refine blk_drewN ?_ _ | refine blk_drew ?_ | refine blk_alloc ?_ _)); refine blk_far ?_ J0.out _; (with_reducible repeat (first | refine blk_drewN ?_ _ | refine blk_drew ?_ | refine blk_alloc ?_ _)); exact E8.out) hb); have n5_ := Aside0.mk (blk_below (g := E6) (o := .cells #[.int .i64 ((rd_T28 l0_3 (E7)).f0), .int .i64 ((rd_T28 l0_3 (E7)).f1)] 28 (0, 0)) (by (with_reducible repeat (first | refine blk_drewN ?_ _ | refine blk_drew ?_ | refine blk_alloc ?_ _)); refine blk_far ?_ J6.out _; (with_reducible repeat (first | refine blk_drewN ?_ _ | refine blk_drew ?_ | refine blk_alloc ?_ _)); refine blk_far ?_ J6.out _; (with_reducible repeat (first | refine blk_drewN ?_ _ | refine blk_drew ?_ | refine blk_alloc ?_ _)); refine blk_far ?_ J1.out _; (with_reducible repeat (first | refine blk_drewN ?_ _ | refine blk_drew ?_ | refine blk_alloc ?_ _)); refine blk_far ?_ J1.out _; (with_reducible repeat (first | refine blk_drewN ?_ _ | refine blk_drew ?_ | refine blk_alloc ?_ _)); exact E9.out) hb); have n6_ := Aside0.mk (blk_below (g := G4) (o := .cells #[.int .i64 ((rd_T28 l0_3 (G1)).f0), .int .i64 ((rd_T28 l0_3 (G1)).f1)] 28 (0, 0)) (by (with_reducible repeat (first | refine blk_drewN ?_ _ | refine blk_drew ?_ | refine blk_alloc ?_ _)); refine blk_far ?_ Z2.out _; (with_reducible repeat (first | refine blk_drewN ?_ _ | refine blk_drew ?_ | refine blk_alloc ?_ _)); refine blk_far ?_ Z2.out _; (with_reducible repeat (first | refine blk_drewN ?_ _ | refine blk_drew ?_ | refine blk_alloc ?_ _)); refine blk_put (cs := #[.int .i64 ((rd_T28 l0_3 (G1)).f0), .int .i64 0]) ?_ 1 _ rfl; (with_reducible repeat (first | refine blk_drewN ?_ _ | refine blk_drew ?_ | refine blk_alloc ?_ _)); refine blk_put (cs := #[.int .i64 0, .int .i64 0]) ?_ 0 _ rfl; (with_reducible repeat (first | refine blk_drewN ?_ _ | refine blk_drew ?_ | refine blk_alloc ?_ _)); exact V6.out) hb); have n7_ := Aside0.mk (blk_below (g := G5) (o := .cells #[.int .i64 ((rd_T28 l0_3 (G6)).f0), .int .i64 ((rd_T28 l0_3 (G6)).f1)] 28 (0, 0)) (by (with_reducible repeat (first | refine blk_drewN ?_ _ | refine blk_drew ?_ | refine blk_alloc ?_ _)); refine blk_put (cs := #[.int .i64 ((rd_T28 l0_3 (G6)).f0), .int .i64 0]) ?_ 1 _ rfl; (with_reducible repeat (first | refine blk_drewN ?_ _ | refine blk_drew ?_ | refine blk_alloc ?_ _)); refine blk_put (cs := #[.int .i64 0, .int .i64 0]) ?_ 0 _ rfl; (with_reducible repeat (first | refine blk_drewN ?_ _ | refine blk_drew ?_ | refine blk_alloc ?_ _)); refine blk_far ?_ Z3.out _; (with_reducible repeat (first | refine blk_drewN ?_ _ | refine blk_drew ?_ | refine blk_alloc ?_ _)); refine blk_far ?_ Z3.out _; (with_reducible repeat (first | refine blk_drewN ?_ _ | refine blk_drew ?_ | refine blk_alloc ?_ _)); exact V7.out) hb); have n8_ := Aside0.mk (below_step (by repeat (first | (with_reducible first | exact HB.out | apply below_alloc | apply pw_below_drewN | apply below_drew1 | refine below_set ?_ L7.out | refine below_set ?_ L9.out) | exact HB.out)) hb); have n9_ := Aside0.mk (hbox); have n10_ := Aside0.mk ((by rw [hg]; exact (below_size (by repeat (first | (with_reducible first | exact HB.out | apply below_alloc | apply pw_below_drewN | apply below_drew1 | refine below_set ?_ L7.out | refine below_set ?_ L9.out) | exact HB.out))) : w.heap.size ≤ V4)); have n11_ := Aside0.mk ((by rw [hg]; exact (below_size (by repeat (first | (with_reducible first | exact HB.out | apply below_alloc | apply pw_below_drewN | apply below_drew1 | refine below_set ?_ L7.out | refine below_set ?_ L9.out) | exact HB.out))) : w.heap.size ≤ V4)); have n12_ := Aside0.mk ((by rw [hg]; exact Nat.ne_of_lt (blk_lt (g := G2) (o := .cells #[.int .i64 a0_0, .int .i64 a0_1, .int .i64 a0_2, .slice (some G0) l0_3.length c0_3] 24 (0, 0)) (by (with_reducible repeat (first | refine blk_drewN ?_ _ | refine blk_drew ?_ | refine blk_alloc ?_ _)); refine blk_far ?_ Y7.out _; (with_reducible repeat (first | refine blk_drewN ?_ _ | refine blk_drew ?_ | refine blk_alloc ?_ _)); refine blk_far ?_ Y7.out _; (with_reducible repeat (first | refine blk_drewN ?_ _ | refine blk_drew ?_ | refine blk_alloc ?_ _)); refine blk_far ?_ Y6.out _; (with_reducible repeat (first | refine blk_drewN ?_ _ | refine blk_drew ?_ | refine blk_alloc ?_ _)); refine blk_far ?_ Y6.out _; (with_reducible repeat (first | refine blk_drewN ?_ _ | refine blk_drew ?_ | refine blk_alloc ?_ _)); exact E0.out)) : G2 ≠ V4)); have n13_ := Aside0.mk ((by rw [hg]; exact Nat.ne_of_gt (blk_lt (g := G2) (o := .cells #[.int .i64 a0_0, .int .i64 a0_1, .int .i64 a0_2, .slice (some G0) l0_3.length c0_3] 24 (0, 0)) (by (with_reducible repeat (first | refine blk_drewN ?_ _ | refine blk_drew ?_ | refine blk_alloc ?_ _)); refine blk_far ?_ Y7.out _; (with_reducible repeat (first | refine blk_drewN ?_ _ | refine blk_drew ?_ | refine blk_alloc ?_ _)); refine blk_far ?_ Y7.out _; (with_reducible repeat (first | refine blk_drewN ?_ _ | refine blk_drew ?_ | refine blk_alloc ?_ _)); refine blk_far ?_ Y6.out _; (with_reducible repeat (first | refine blk_drewN ?_ _ | refine blk_drew ?_ | refine blk_alloc ?_ _)); refine blk_far ?_ Y6.out _; (with_reducible repeat (first | refine blk_drewN ?_ _ | refine blk_drew ?_ | refine blk_alloc ?_ _)); exact E0.out)) : V4 ≠ G2)); have n14_ := Aside0.mk ((by rw [hg]; exact Nat.ne_of_lt (blk_lt (g := G3) (o := .cells #[.int .i64 0, .int .i64 0] 28 (0, 0)) (by (with_reducible repeat (first | refine blk_drewN ?_ _ | refine blk_drew ?_ | refine blk_alloc ?_ _)); refine blk_far ?_ Z1.out _; (with_reducible repeat (first | refine blk_drewN ?_ _ | refine blk_drew ?_ | refine blk_alloc ?_ _)); refine blk_far ?_ Z1.out _; (with_reducible repeat (first | refine blk_drewN ?_ _ | refine blk_drew ?_ | refine blk_alloc ?_ _)); refine blk_far ?_ Z0.out _; (with_reducible repeat (first | refine blk_drewN ?_ _ | refine blk_drew ?_ | refine blk_alloc ?_ _)); refine blk_far ?_ Z0.out _; (with_reducible repeat (first | refine blk_drewN ?_ _ | refine blk_drew ?_ | refine blk_alloc ?_ _)); exact E1.out)) : G3 ≠ V4)); have n15_ := Aside0.mk ((by rw [hg]; exact Nat.ne_of_gt (blk_lt (g := G3) (o := .cells #[.int .i64 0, .int .i64 0] 28 (0, 0)) (by (with_reducible repeat (first | refine blk_drewN ?_ _ | refine blk_drew ?_ | refine blk_alloc ?_ _)); refine blk_far ?_ Z1.out _; (with_reducible repeat (first | refine blk_drewN ?_ _ | refine blk_drew ?_ | refine blk_alloc ?_ _)); refine blk_far ?_ Z1.out _; (with_reducible repeat (first | refine blk_drewN ?_ _ | refine blk_drew ?_ | refine blk_alloc ?_ _)); refine blk_far ?_ Z0.out _; (with_reducible repeat (first | refine blk_drewN ?_ _ | refine blk_drew ?_ | refine blk_alloc ?_ _)); refine blk_far ?_ Z0.out _; (with_reducible repeat (first | refine blk_drewN ?_ _ | refine blk_drew ?_ | refine blk_alloc ?_ _)); exact E1.out)) : V4 ≠ G3)); have n16_ := Aside0.mk ((by rw [hg]; exact Nat.ne_of_lt (blk_lt (g := V5) (o := .cells #[.int .i64 t120] 3 (0, 0)) (by (with_reducible repeat (first | refine blk_drewN ?_ _ | refine blk_drew ?_ | refine blk_alloc ?_ _)); refine blk_far ?_ J3.out _; (with_reducible repeat (first | refine blk_drewN ?_ _ | refine blk_drew ?_ | refine blk_alloc ?_ _)); refine blk_far ?_ J3.out _; (with_reducible repeat (first | refine blk_drewN ?_ _ | refine blk_drew ?_ | refine blk_alloc ?_ _)); refine blk_far ?_ Z8.out _; (with_reducible repeat (first | refine blk_drewN ?_ _ | refine blk_drew ?_ | refine blk_alloc ?_ _)); refine blk_far ?_ Z8.out _; (with_reducible repeat (first | refine blk_drewN ?_ _ | refine blk_drew ?_ | refine blk_alloc ?_ _)); exact E2.out)) : V5 ≠ V4)); have n17_ := Aside0.mk ((by rw [hg]; exact Nat.ne_of_gt (blk_lt (g := V5) (o := .cells #[.int .i64 t120] 3 (0, 0)) (by (with_reducible repeat (first | refine blk_drewN ?_ _ | refine blk_drew ?_ | refine blk_alloc ?_ _)); refine blk_far ?_ J3.out _; (with_reducible repeat (first | refine blk_drewN ?_ _ | refine blk_drew ?_ | refine blk_alloc ?_ _)); refine blk_far ?_ J3.out _; (with_reducible repeat (first | refine blk_drewN ?_ _ | refine blk_drew ?_ | refine blk_alloc ?_ _)); refine blk_far ?_ Z8.out _; (with_reducible repeat (first | refine blk_drewN ?_ _ | refine blk_drew ?_ | refine blk_alloc ?_ _)); refine blk_far ?_ Z8.out _; (with_reducible repeat (first | refine blk_drewN ?_ _ | refine blk_drew ?_ | refine blk_alloc ?_ _)); exact E2.out)) : V4 ≠ V5)); have n18_ := Aside0.mk ((by rw [hg]; exact Nat.ne_of_lt (blk_lt (g := G7) (o := .cells #[.int .i64 t123] 3 (0, 0)) (by (with_reducible repeat (first | refine blk_drewN ?_ _ | refine blk_drew ?_ | refine blk_alloc ?_ _)); refine blk_far ?_ J4.out _; (with_reducible repeat (first | refine blk_drewN ?_ _ | refine blk_drew ?_ | refine blk_alloc ?_ _)); refine blk_far ?_ J4.out _; (with_reducible repeat (first | refine blk_drewN ?_ _ | refine blk_drew ?_ | refine blk_alloc ?_ _)); refine blk_far ?_ Z9.out _; (with_reducible repeat (first | refine blk_drewN ?_ _ | refine blk_drew ?_ | refine blk_alloc ?_ _)); refine blk_far ?_ Z9.out _; (with_reducible repeat (first | refine blk_drewN ?_ _ | refine blk_drew ?_ | refine blk_alloc ?_ _)); exact E4.out)) : G7 ≠ V4)); have n19_ := Aside0.mk ((by rw [hg]; exact Nat.ne_of_gt (blk_lt (g := G7) (o := .cells #[.int .i64 t123] 3 (0, 0)) (by (with_reducible repeat (first | refine blk_drewN ?_ _ | refine blk_drew ?_ | refine blk_alloc ?_ _)); refine blk_far ?_ J4.out _; (with_reducible repeat (first | refine blk_drewN ?_ _ | refine blk_drew ?_ | refine blk_alloc ?_ _)); refine blk_far ?_ J4.out _; (with_reducible repeat (first | refine blk_drewN ?_ _ | refine blk_drew ?_ | refine blk_alloc ?_ _)); refine blk_far ?_ Z9.out _; (with_reducible repeat (first | refine blk_drewN ?_ _ | refine blk_drew ?_ | refine blk_alloc ?_ _)); refine blk_far ?_ Z9.out _; (with_reducible repeat (first | refine blk_drewN ?_ _ | refine blk_drew ?_ | refine blk_alloc ?_ _)); exact E4.out)) : V4 ≠ G7)); have n20_ := Aside0.mk ((by rw [hg]; exact Nat.ne_of_lt (blk_lt (g := E5) (o := .cells #[.int .i64 ((rd_T28 l0_3 (E3)).f0), .int .i64 ((rd_T28 l0_3 (E3)).f1)] 28 (0, 0)) (by (with_reducible repeat (first | refine blk_drewN ?_ _ | refine blk_drew ?_ | refine blk_alloc ?_ _)); refine blk_far ?_ J5.out _; (with_reducible repeat (first | refine blk_drewN ?_ _ | refine blk_drew ?_ | refine blk_alloc ?_ _)); refine blk_far ?_ J5.out _; (with_reducible repeat (first | refine blk_drewN ?_ _ | refine blk_drew ?_ | refine blk_alloc ?_ _)); refine blk_far ?_ J0.out _; (with_reducible repeat (first | refine blk_drewN ?_ _ | refine blk_drew ?_ | refine blk_alloc ?_ _)); refine blk_far ?_ J0.out _; (with_reducible repeat (first | refine blk_drewN ?_ _ | refine blk_drew ?_ | refine blk_alloc ?_ _)); exact E8.out)) : E5 ≠ V4)); have n21_ := Aside0.mk ((by rw [hg]; exact Nat.ne_of_gt (blk_lt (g := E5) (o := .cells #[.int .i64 ((rd_T28 l0_3 (E3)).f0), .int .i64 ((rd_T28 l0_3 (E3)).f1)] 28 (0, 0)) (by (with_reducible repeat (first | refine blk_drewN ?_ _ | refine blk_drew ?_ | refine blk_alloc ?_ _)); refine blk_far ?_ J5.out _; (with_reducible repeat (first | refine blk_drewN ?_ _ | refine blk_drew ?_ | refine blk_alloc ?_ _)); refine blk_far ?_ J5.out _; (with_reducible repeat (first | refine blk_drewN ?_ _ | refine blk_drew ?_ | refine blk_alloc ?_ _)); refine blk_far ?_ J0.out _; (with_reducible repeat (first | refine blk_drewN ?_ _ | refine blk_drew ?_ | refine blk_alloc ?_ _)); refine blk_far ?_ J0.out _; (with_reducible repeat (first | refine blk_drewN ?_ _ | refine blk_drew ?_ | refine blk_alloc ?_ _)); exact E8.out)) : V4 ≠ E5)); have n22_ := Aside0.mk ((by rw [hg]; exact Nat.ne_of_lt (blk_lt (g := E6) (o := .cells #[.int .i64 ((rd_T28 l0_3 (E7)).f0), .int .i64 ((rd_T28 l0_3 (E7)).f1)] 28 (0, 0)) (by (with_reducible repeat (first | refine blk_drewN ?_ _ | refine blk_drew ?_ | refine blk_alloc ?_ _)); refine blk_far ?_ J6.out _; (with_reducible repeat (first | refine blk_drewN ?_ _ | refine blk_drew ?_ | refine blk_alloc ?_ _)); refine blk_far ?_ J6.out _; (with_reducible repeat (first | refine blk_drewN ?_ _ | refine blk_drew ?_ | refine blk_alloc ?_ _)); refine blk_far ?_ J1.out _; (with_reducible repeat (first | refine blk_drewN ?_ _ | refine blk_drew ?_ | refine blk_alloc ?_ _)); refine blk_far ?_ J1.out _; (with_reducible repeat (first | refine blk_drewN ?_ _ | refine blk_drew ?_ | refine blk_alloc ?_ _)); exact E9.out)) : E6 ≠ V4)); have n23_ := Aside0.mk ((by rw [hg]; exact Nat.ne_of_gt (blk_lt (g := E6) (o := .cells #[.int .i64 ((rd_T28 l0_3 (E7)).f0), .int .i64 ((rd_T28 l0_3 (E7)).f1)] 28 (0, 0)) (by (with_reducible repeat (first | refine blk_drewN ?_ _ | refine blk_drew ?_ | refine blk_alloc ?_ _)); refine blk_far ?_ J6.out _; (with_reducible repeat (first | refine blk_drewN ?_ _ | refine blk_drew ?_ | refine blk_alloc ?_ _)); refine blk_far ?_ J6.out _; (with_reducible repeat (first | refine blk_drewN ?_ _ | refine blk_drew ?_ | refine blk_alloc ?_ _)); refine blk_far ?_ J1.out _; (with_reducible repeat (first | refine blk_drewN ?_ _ | refine blk_drew ?_ | refine blk_alloc ?_ _)); refine blk_far ?_ J1.out _; (with_reducible repeat (first | refine blk_drewN ?_ _ | refine blk_drew ?_ | refine blk_alloc ?_ _)); exact E9.out)) : V4 ≠ E6)); have n24_ := Aside0.mk ((by rw [hg]; exact Nat.ne_of_lt (blk_lt (g := G4) (o := .cells #[.int .i64 ((rd_T28 l0_3 (G1)).f0), .int .i64 ((rd_T28 l0_3 (G1)).f1)] 28 (0, 0)) (by (with_reducible repeat (first | refine blk_drewN ?_ _ | refine blk_drew ?_ | refine blk_alloc ?_ _)); refine blk_far ?_ Z2.out _; (with_reducible repeat (first | refine blk_drewN ?_ _ | refine blk_drew ?_ | refine blk_alloc ?_ _)); refine blk_far ?_ Z2.out _; (with_reducible repeat (first | refine blk_drewN ?_ _ | refine blk_drew ?_ | refine blk_alloc ?_ _)); refine blk_put (cs := #[.int .i64 ((rd_T28 l0_3 (G1)).f0), .int .i64 0]) ?_ 1 _ rfl; (with_reducible repeat (first | refine blk_drewN ?_ _ | refine blk_drew ?_ | refine blk_alloc ?_ _)); refine blk_put (cs := #[.int .i64 0, .int .i64 0]) ?_ 0 _ rfl; (with_reducible repeat (first | refine blk_drewN ?_ _ | refine blk_drew ?_ | refine blk_alloc ?_ _)); exact V6.out)) : G4 ≠ V4)); have n25_ := Aside0.mk ((by rw [hg]; exact Nat.ne_of_gt (blk_lt (g := G4) (o := .cells #[.int .i64 ((rd_T28 l0_3 (G1)).f0), .int .i64 ((rd_T28 l0_3 (G1)).f1)] 28 (0, 0)) (by (with_reducible repeat (first | refine blk_drewN ?_ _ | refine blk_drew ?_ | refine blk_alloc ?_ _)); refine blk_far ?_ Z2.out _; (with_reducible repeat (first | refine blk_drewN ?_ _ | refine blk_drew ?_ | refine blk_alloc ?_ _)); refine blk_far ?_ Z2.out _; (with_reducible repeat (first | refine blk_drewN ?_ _ | refine blk_drew ?_ | refine blk_alloc ?_ _)); refine blk_put (cs := #[.int .i64 ((rd_T28 l0_3 (G1)).f0), .int .i64 0]) ?_ 1 _ rfl; (with_reducible repeat (first | refine blk_drewN ?_ _ | refine blk_drew ?_ | refine blk_alloc ?_ _)); refine blk_put (cs := #[.int .i64 0, .int .i64 0]) ?_ 0 _ rfl; (with_reducible repeat (first | refine blk_drewN ?_ _ | refine blk_drew ?_ | refine blk_alloc ?_ _)); exact V6.out)) : V4 ≠ G4)); have n26_ := Aside0.mk ((by rw [hg]; exact Nat.ne_of_lt (blk_lt (g := G5) (o := .cells #[.int .i64 ((rd_T28 l0_3 (G6)).f0), .int .i64 ((rd_T28 l0_3 (G6)).f1)] 28 (0, 0)) (by (with_reducible repeat (first | refine blk_drewN ?_ _ | refine blk_drew ?_ | refine blk_alloc ?_ _)); refine blk_put (cs := #[.int .i64 ((rd_T28 l0_3 (G6)).f0), .int .i64 0]) ?_ 1 _ rfl; (with_reducible repeat (first | refine blk_drewN ?_ _ | refine blk_drew ?_ | refine blk_alloc ?_ _)); refine blk_put (cs := #[.int .i64 0, .int .i64 0]) ?_ 0 _ rfl; (with_reducible repeat (first | refine blk_drewN ?_ _ | refine blk_drew ?_ | refine blk_alloc ?_ _)); refine blk_far ?_ Z3.out _; (with_reducible repeat (first | refine blk_drewN ?_ _ | refine blk_drew ?_ | refine blk_alloc ?_ _)); refine blk_far ?_ Z3.out _; (with_reducible repeat (first | refine blk_drewN ?_ _ | refine blk_drew ?_ | refine blk_alloc ?_ _)); exact V7.out)) : G5 ≠ V4)); have n27_ := Aside0.mk ((by rw [hg]; exact Nat.ne_of_gt (blk_lt (g := G5) (o := .cells #[.int .i64 ((rd_T28 l0_3 (G6)).f0), .int .i64 ((rd_T28 l0_3 (G6)).f1)] 28 (0, 0)) (by (with_reducible repeat (first | refine blk_drewN ?_ _ | refine blk_drew ?_ | refine blk_alloc ?_ _)); refine blk_put (cs := #[.int .i64 ((rd_T28 l0_3 (G6)).f0), .int .i64 0]) ?_ 1 _ rfl; (with_reducible repeat (first | refine blk_drewN ?_ _ | refine blk_drew ?_ | refine blk_alloc ?_ _)); refine blk_put (cs := #[.int .i64 0, .int .i64 0]) ?_ 0 _ rfl; (with_reducible repeat (first | refine blk_drewN ?_ _ | refine blk_drew ?_ | refine blk_alloc ?_ _)); refine blk_far ?_ Z3.out _; (with_reducible repeat (first | refine blk_drewN ?_ _ | refine blk_drew ?_ | refine blk_alloc ?_ _)); refine blk_far ?_ Z3.out _; (with_reducible repeat (first | refine blk_drewN ?_ _ | refine blk_drew ?_ | refine blk_alloc ?_ _)); exact V7.out)) : V4 ≠ G5)); clear E0; clear E1; clear E2; clear E4; clear E8; clear E9; clear V6; clear V7; clear HB; have E0 := n0_; have E1 := n1_; have E2 := n2_; have E4 := n3_; have E8 := n4_; have E9 := n5_; have V6 := n6_; have V7 := n7_; have HB := n8_; have Z4 := n9_; have E4h := n10_; have E0T := n11_; have E0D := n12_; have E0U := n13_; have E0u := n14_; have E0z := n15_; have E0E := n16_; have E0V := n17_; have E0F := n18_; have E0W := n19_; have E0G := n20_; have E0X := n21_; have E0H := n22_; have E0Y := n23_; have E0I := n24_; have E0Z := n25_; have E0J := n26_; have E1a := n27_; clear n0_ n1_ n2_ n3_ n4_ n5_ n6_ n7_ n8_ n9_ n10_ n11_ n12_ n13_ n14_ n15_ n16_ n17_ n18_ n19_ n20_ n21_ n22_ n23_ n24_ n25_ n26_ n27_; clear hb hbox hg; have E4i := E0U.out; have E4j := E0D.out; have E4k := E0z.out; have E4l := E0u.out; have E4m := E0V.out; have E4n := E0E.out; have E4o := E0W.out; have E4p := E0F.out; have E4q := E0X.out; have E4r := E0G.out; have E4s := E0Y.out; have E4t := E0H.out; have E4u := E0Z.out; have E4v := E0I.out; have E4w := E1a.out; have E4x := E0J.out; obtain ⟨E4y, E4z⟩ := zq1 Z4))
 have n0_ : Aside0 ((w59.setCell ⟨V4, 0, none⟩ (.int .i64 a0_2)).heap[G2]? = some (.cells #[.int .i64 a0_0, .int .i64 a0_1, .int .i64 a0_2, .slice (some G0) l0_3.length c0_3] 24 (0, 0))) := ⟨by exact zf E0 E0D⟩
 have n1_ : Aside0 ((w59.setCell ⟨V4, 0, none⟩ (.int .i64 a0_2)).heap[G3]? = some (.cells #[.int .i64 0, .int .i64 0] 28 (0, 0))) := ⟨by exact zf E1 E0u⟩
 have n2_ : Aside0 ((w59.setCell ⟨V4, 0, none⟩ (.int .i64 a0_2)).heap[V5]? = some (.cells #[.int .i64 t120] 3 (0, 0))) := ⟨by exact zf E2 E0E⟩
 have n3_ : Aside0 ((w59.setCell ⟨V4, 0, none⟩ (.int .i64 a0_2)).heap[G7]? = some (.cells #[.int .i64 t123] 3 (0, 0))) := ⟨by exact zf E4 E0F⟩
 have n4_ : Aside0 ((w59.setCell ⟨V4, 0, none⟩ (.int .i64 a0_2)).heap[E5]? = some (.cells #[.int .i64 ((rd_T28 l0_3 (E3)).f0), .int .i64 ((rd_T28 l0_3 (E3)).f1)] 28 (0, 0))) := ⟨by exact zf E8 E0G⟩
 have n5_ : Aside0 ((w59.setCell ⟨V4, 0, none⟩ (.int .i64 a0_2)).heap[E6]? = some (.cells #[.int .i64 ((rd_T28 l0_3 (E7)).f0), .int .i64 ((rd_T28 l0_3 (E7)).f1)] 28 (0, 0))) := ⟨by exact zf E9 E0H⟩
 have n6_ : Aside0 ((w59.setCell ⟨V4, 0, none⟩ (.int .i64 a0_2)).heap[G4]? = some (.cells #[.int .i64 ((rd_T28 l0_3 (G1)).f0), .int .i64 ((rd_T28 l0_3 (G1)).f1)] 28 (0, 0))) := ⟨by exact zf V6 E0I⟩
 have n7_ : Aside0 ((w59.setCell ⟨V4, 0, none⟩ (.int .i64 a0_2)).heap[G5]? = some (.cells #[.int .i64 ((rd_T28 l0_3 (G6)).f0), .int .i64 ((rd_T28 l0_3 (G6)).f1)] 28 (0, 0))) := ⟨by exact zf V7 E0J⟩
 have n8_ : Aside0 ((w59.setCell ⟨V4, 0, none⟩ (.int .i64 a0_2)).heap[V4]? = some (.cells #[.int .i64 a0_2] 3 (0, 0))) := ⟨by exact zp Z4 rfl⟩
 have n9_ : Aside0 (Below w.heap.size w (w59.setCell ⟨V4, 0, none⟩ (.int .i64 a0_2))) := ⟨by exact zbo HB E0T⟩
 (try clear E0)
 (try clear E1)
 (try clear E2)
 (try clear E4)
 (try clear E8)
 (try clear E9)
 (try clear V6)
 (try clear V7)
 (try clear Z4)
 (try clear HB)
 generalize (w59.setCell ⟨V4, 0, none⟩ (.int .i64 a0_2)) = w69 at n0_ n1_ n2_ n3_ n4_ n5_ n6_ n7_ n8_ n9_ ⊢
 have E0 := n0_
 have E1 := n1_
 have E2 := n2_
 have E4 := n3_
 have E8 := n4_
 have E9 := n5_
 have V6 := n6_
 have V7 := n7_
 have Z4 := n8_
 have HB := n9_
 clear n0_ n1_ n2_ n3_ n4_ n5_ n6_ n7_ n8_ n9_
 replace E0 := zkd E0
 replace E1 := zkd E1
 replace E2 := zkd E2
 replace E4 := zkd E4
 replace E8 := zkd E8
 replace E9 := zkd E9
 replace V6 := zkd V6
 replace V7 := zkd V7
 replace Z4 := zkd Z4
 replace HB := zbd HB
 refine start_ (n := 22) (S := fun w' => w'.cell? ⟨E5, 0, none⟩ = some (.int .i64 ((rd_T28 l0_3 (E3)).f0)) ∧ w'.cell? ⟨E5, 1, none⟩ = some (.int .i64 ((rd_T28 l0_3 (E3)).f1)) ∧ w'.cell? ⟨E6, 0, none⟩ = some (.int .i64 ((rd_T28 l0_3 (E7)).f0)) ∧ w'.cell? ⟨E6, 1, none⟩ = some (.int .i64 ((rd_T28 l0_3 (E7)).f1)) ∧ w'.cell? ⟨G4, 0, none⟩ = some (.int .i64 ((rd_T28 l0_3 (G1)).f0)) ∧ w'.cell? ⟨G4, 1, none⟩ = some (.int .i64 ((rd_T28 l0_3 (G1)).f1)) ∧ w'.cell? ⟨G5, 0, none⟩ = some (.int .i64 ((rd_T28 l0_3 (G6)).f0)) ∧ w'.cell? ⟨G5, 1, none⟩ = some (.int .i64 ((rd_T28 l0_3 (G6)).f1))) (ds := []) (bs 22 0) (by kernel_rfl) rfl rfl ⟨(blk_cell E8.out 0).trans rfl, (blk_cell E8.out 1).trans rfl, (blk_cell E9.out 0).trans rfl, (blk_cell E9.out 1).trans rfl, (blk_cell V6.out 0).trans rfl, (blk_cell V6.out 1).trans rfl, (blk_cell V7.out 0).trans rfl, (blk_cell V7.out 1).trans rfl⟩ (fun hHeld => ?_); refine with_tabW warp_at.tab7 warp_at.bits7 (fun HT_ HW_ => ?_)
 generalize w69.drew = w70 at E0 E1 E2 E4 E8 E9 V6 V7 Z4 HB hHeld ⊢
 refine pure_ (i := 0) (N := some 82) (v := ?_) (a' := ?_) (bs 22 1) rfl rfl (any_of HT_.out (by kernel_rfl)) (fun _ _ _ h => h) (Or.inl ⟨by rfl, ?_⟩) ?_ ?_
 rotate_left
 ·intro w'
  go_simp
  with_reducible rfl
 rotate_left
 ·simp only [Act.put, sA, sB, sC, i64_w, i32_w]
  rfl
 refine pure_ (i := 1) (N := some 83) (v := ?_) (a' := ?_) (bs 22 3) rfl rfl (any_of HT_.out (by kernel_rfl)) (fun _ _ _ h => h) (Or.inl ⟨by rfl, ?_⟩) ?_ ?_
 rotate_left
 ·intro w'
  go_simp
  with_reducible rfl
 rotate_left
 ·simp only [Act.put, sA, sB, sC, i64_w, i32_w]
  rfl
 refine pure_ (i := 3) (N := some 85) (v := ?_) (a' := ?_) (bs 22 11) rfl rfl (any_of HT_.out (by kernel_rfl)) (fun _ _ _ h => h) (Or.inl ⟨by rfl, ?_⟩) ?_ ?_
 rotate_left
 ·intro w'
  go_simp
  with_reducible rfl
 rotate_left
 ·simp only [Act.put, sA, sB, sC, i64_w, i32_w]
  rfl
 refine pure_ (i := 5) (N := some 87) (v := ?_) (a' := ?_) (bs 22 43) rfl rfl (any_of HT_.out (by kernel_rfl)) (fun _ _ _ h => h) (Or.inl ⟨by rfl, ?_⟩) ?_ ?_
 rotate_left
 ·intro w'
  go_simp
  with_reducible rfl
 rotate_left
 ·simp only [Act.put, sA, sB, sC, i64_w, i32_w]
  rfl
 refine pure_ (i := 7) (N := some 89) (v := ?_) (a' := ?_) (bs 22 171) rfl rfl (any_of HT_.out (by kernel_rfl)) (fun _ _ _ h => h) (Or.inl ⟨by rfl, ?_⟩) ?_ ?_
 rotate_left
 ·intro w'
  go_simp
  with_reducible rfl
 rotate_left
 ·simp only [Act.put, sA, sB, sC, i64_w, i32_w]
  rfl
 refine pure_ (i := 10) (N := some 92) (v := ?_) (a' := ?_) (bs 22 1195) rfl rfl (any_of HT_.out (by kernel_rfl)) (fun _ _ _ h => h) (Or.inl ⟨by rfl, ?_⟩) ?_ ?_
 rotate_left
 ·intro w'
  go_simp
  with_reducible rfl
 rotate_left
 ·simp only [Act.put, sA, sB, sC, i64_w, i32_w]
  rfl
 refine pure_ (i := 11) (N := some 93) (v := ?_) (a' := ?_) (bs 22 3243) rfl rfl (any_of HT_.out (by kernel_rfl)) (fun _ _ _ h => h) (Or.inl ⟨by rfl, ?_⟩) ?_ ?_
 rotate_left
 ·intro w'
  go_simp
  with_reducible rfl
 rotate_left
 ·simp only [Act.put, sA, sB, sC, i64_w, i32_w]
  rfl
 refine pure_ (i := 13) (N := some 95) (v := ?_) (a' := ?_) (bs 22 11435) rfl rfl (any_of HT_.out (by kernel_rfl)) (fun _ _ _ h => h) (Or.inl ⟨by rfl, ?_⟩) ?_ ?_
 rotate_left
 ·intro w'
  go_simp
  with_reducible rfl
 rotate_left
 ·simp only [Act.put, sA, sB, sC, i64_w, i32_w]
  rfl
 refine pure_ (i := 15) (N := some 97) (v := ?_) (a' := ?_) (bs 22 44203) rfl rfl (any_of HT_.out (by kernel_rfl)) (fun _ _ _ h => h) (Or.inl ⟨by rfl, ?_⟩) ?_ ?_
 rotate_left
 ·intro w'
  go_simp
  with_reducible rfl
 rotate_left
 ·simp only [Act.put, sA, sB, sC, i64_w, i32_w]
  rfl
 refine pure_ (i := 17) (N := some 99) (v := ?_) (a' := ?_) (bs 22 175275) rfl rfl (any_of HT_.out (by kernel_rfl)) (fun _ _ _ h => h) (Or.inl ⟨by rfl, ?_⟩) ?_ ?_
 rotate_left
 ·intro w'
  go_simp
  with_reducible rfl
 rotate_left
 ·simp only [Act.put, sA, sB, sC, i64_w, i32_w]
  rfl
 refine take_ (i := 2) (N := some 84) (v := ?_) (a' := ?_) (bs 22 175279) rfl rfl (take_ofW HT_.out HW_.out (by kernel_rfl)) (fun _ _ _ h => h) (Or.inl ⟨by rfl, ?_⟩) hHeld ?_ ?_
 rotate_left
 ·rintro w' ⟨s0, s1, s2, s3, s4, s5, s6, s7⟩
  go_simp
  with_reducible rfl
 rotate_left
 ·simp only [Act.put, sA, sB, sC, i64_w, i32_w]
  rfl
 refine take_ (i := 4) (N := some 86) (v := ?_) (a' := ?_) (bs 22 175295) rfl rfl (take_ofW HT_.out HW_.out (by kernel_rfl)) (fun _ _ _ h => h) (Or.inl ⟨by rfl, ?_⟩) hHeld ?_ ?_
 rotate_left
 ·rintro w' ⟨s0, s1, s2, s3, s4, s5, s6, s7⟩
  go_simp
  with_reducible rfl
 rotate_left
 ·simp only [Act.put, sA, sB, sC, i64_w, i32_w]
  rfl
 refine take_ (i := 6) (N := some 88) (v := ?_) (a' := ?_) (bs 22 175359) rfl rfl (take_ofW HT_.out HW_.out (by kernel_rfl)) (fun _ _ _ h => h) (Or.inl ⟨by rfl, ?_⟩) hHeld ?_ ?_
 rotate_left
 ·rintro w' ⟨s0, s1, s2, s3, s4, s5, s6, s7⟩
  go_simp
  with_reducible rfl
 rotate_left
 ·simp only [Act.put, sA, sB, sC, i64_w, i32_w]
  rfl
 refine take_ (i := 8) (N := some 90) (v := ?_) (a' := ?_) (bs 22 175615) rfl rfl (take_ofW HT_.out HW_.out (by kernel_rfl)) (fun _ _ _ h => h) (Or.inl ⟨by rfl, ?_⟩) hHeld ?_ ?_
 rotate_left
 ·rintro w' ⟨s0, s1, s2, s3, s4, s5, s6, s7⟩
  go_simp
  with_reducible rfl
 rotate_left
 ·simp only [Act.put, sA, sB, sC, i64_w, i32_w]
  rfl
 refine take_ (i := 12) (N := some 94) (v := ?_) (a' := ?_) (bs 22 179711) rfl rfl (take_ofW HT_.out HW_.out (by kernel_rfl)) (fun _ _ _ h => h) (Or.inl ⟨by rfl, ?_⟩) hHeld ?_ ?_
 rotate_left
 ·rintro w' ⟨s0, s1, s2, s3, s4, s5, s6, s7⟩
  go_simp
  with_reducible rfl
 rotate_left
 ·simp only [Act.put, sA, sB, sC, i64_w, i32_w]
  rfl
 refine take_ (i := 14) (N := some 96) (v := ?_) (a' := ?_) (bs 22 196095) rfl rfl (take_ofW HT_.out HW_.out (by kernel_rfl)) (fun _ _ _ h => h) (Or.inl ⟨by rfl, ?_⟩) hHeld ?_ ?_
 rotate_left
 ·rintro w' ⟨s0, s1, s2, s3, s4, s5, s6, s7⟩
  go_simp
  with_reducible rfl
 rotate_left
 ·simp only [Act.put, sA, sB, sC, i64_w, i32_w]
  rfl
 refine take_ (i := 16) (N := some 98) (v := ?_) (a' := ?_) (bs 22 261631) rfl rfl (take_ofW HT_.out HW_.out (by kernel_rfl)) (fun _ _ _ h => h) (Or.inl ⟨by rfl, ?_⟩) hHeld ?_ ?_
 rotate_left
 ·rintro w' ⟨s0, s1, s2, s3, s4, s5, s6, s7⟩
  go_simp
  with_reducible rfl
 rotate_left
 ·simp only [Act.put, sA, sB, sC, i64_w, i32_w]
  rfl
 refine take_ (i := 18) (N := some 100) (v := ?_) (a' := ?_) (bs 22 523775) rfl rfl (take_ofW HT_.out HW_.out (by kernel_rfl)) (fun _ _ _ h => h) (Or.inl ⟨by rfl, ?_⟩) hHeld ?_ ?_
 rotate_left
 ·rintro w' ⟨s0, s1, s2, s3, s4, s5, s6, s7⟩
  go_simp
  with_reducible rfl
 rotate_left
 ·simp only [Act.put, sA, sB, sC, i64_w, i32_w]
  rfl
 refine one_ (i := 9) (N := some 91) (bs 22 524287) rfl rfl (one_of HT_.out (by kernel_rfl)) (by decide) (fun K hK => ?_)
 refine goesT_ (t := 82) Try.func66 (by kernel_rfl) rfl #[.pointer (some ⟨V4, 0, none⟩), .pointer (some ⟨V5, 0, none⟩), .pointer (some ⟨G7, 0, none⟩)] #[.int .i64 ((rd_T28 l0_3 (E3)).f0), .int .i64 ((rd_T28 l0_3 (E7)).f0), .int .i64 ((rd_T28 l0_3 (G1)).f0), .int .i64 ((rd_T28 l0_3 (G6)).f0), .pointer (some ⟨V4, 0, none⟩), .pointer (some ⟨V5, 0, none⟩), .pointer (some ⟨G7, 0, none⟩)] (by rfl) rfl rfl (by first | rfl | (go_simp; done) | (go_simp; rfl)) (by (try simp only [List.map_toArray, List.map_cons, List.map_nil]); first | done | rfl | (go_simp; done) | (go_simp; rfl)) ?_
 with_reducible refine (warp_at_1.calls k ((rd_T28 l0_3 (E3)).f0) ((rd_T28 l0_3 (E7)).f0) ((rd_T28 l0_3 (G1)).f0) ((rd_T28 l0_3 (G6)).f0) V4 a0_2 V5 t120 G7 t123 t134 _ ?side1 ?side2 ?side3 A18.out).mono ?_
 (case side1 => exact zk0 Z4)
 (case side2 => exact zk0 E2)
 (case side3 => exact zk0 E4)
 rintro e w71 ⟨rfl, hb⟩
 refine ⟨_, rfl, ?_⟩
 replace E0 := zk E0 hb
 replace E1 := zk E1 hb
 replace E2 := zk E2 hb
 replace E4 := zk E4 hb
 replace E8 := zk E8 hb
 replace E9 := zk E9 hb
 replace V6 := zk V6 hb
 replace V7 := zk V7 hb
 replace Z4 := zk Z4 hb
 replace HB := zb HB hb
 (try clear hb)
 (try clear hb2)
 (try clear hk)
 (try clear hi)
 refine hK.out _ _ ⟨(blk_cell E8.out 0).trans rfl, (blk_cell E8.out 1).trans rfl, (blk_cell E9.out 0).trans rfl, (blk_cell E9.out 1).trans rfl, (blk_cell V6.out 0).trans rfl, (blk_cell V6.out 1).trans rfl, (blk_cell V7.out 0).trans rfl, (blk_cell V7.out 1).trans rfl⟩ (fun hHeld => ?_)
 clear hK K
 refine norm_ (a' := ?_) ?_ ?_
 rotate_left
 ·show Act.put _ (some 91) _ = _
  simp only [Act.put, sA, sB, sC, i64_w, i32_w]
  rfl
 refine one_ (i := 19) (N := some 101) (bs 22 1048575) rfl rfl (one_of HT_.out (by kernel_rfl)) (by decide) (fun K hK => ?_)
 refine goesT_ (t := 92) Try.func66 (by kernel_rfl) rfl #[.pointer (some ⟨V4, 0, none⟩), .pointer (some ⟨V5, 0, none⟩), .pointer (some ⟨G7, 0, none⟩)] #[.int .i64 ((rd_T28 l0_3 (E3)).f1), .int .i64 ((rd_T28 l0_3 (E7)).f1), .int .i64 ((rd_T28 l0_3 (G1)).f1), .int .i64 ((rd_T28 l0_3 (G6)).f1), .pointer (some ⟨V4, 0, none⟩), .pointer (some ⟨V5, 0, none⟩), .pointer (some ⟨G7, 0, none⟩)] (by rfl) rfl rfl (by first | rfl | (go_simp; done) | (go_simp; rfl)) (by (try simp only [List.map_toArray, List.map_cons, List.map_nil]); first | done | rfl | (go_simp; done) | (go_simp; rfl)) ?_
 with_reducible refine (warp_at_1.calls k ((rd_T28 l0_3 (E3)).f1) ((rd_T28 l0_3 (E7)).f1) ((rd_T28 l0_3 (G1)).f1) ((rd_T28 l0_3 (G6)).f1) V4 a0_2 V5 t120 G7 t123 t135 _ ?side1 ?side2 ?side3 A19.out).mono ?_
 (case side1 => exact zk0 Z4)
 (case side2 => exact zk0 E2)
 (case side3 => exact zk0 E4)
 rintro e w72 ⟨rfl, hb⟩
 refine ⟨_, rfl, ?_⟩
 replace E0 := zk E0 hb
 replace E1 := zk E1 hb
 replace E2 := zk E2 hb
 replace E4 := zk E4 hb
 replace E8 := zk E8 hb
 replace E9 := zk E9 hb
 replace V6 := zk V6 hb
 replace V7 := zk V7 hb
 replace Z4 := zk Z4 hb
 replace HB := zb HB hb
 (try clear hb)
 (try clear hb2)
 (try clear hk)
 (try clear hi)
 refine hK.out _ _ ⟨(blk_cell E8.out 0).trans rfl, (blk_cell E8.out 1).trans rfl, (blk_cell E9.out 0).trans rfl, (blk_cell E9.out 1).trans rfl, (blk_cell V6.out 0).trans rfl, (blk_cell V6.out 1).trans rfl, (blk_cell V7.out 0).trans rfl, (blk_cell V7.out 1).trans rfl⟩ (fun hHeld => ?_)
 clear hK K
 refine norm_ (a' := ?_) ?_ ?_
 rotate_left
 ·show Act.put _ (some 101) _ = _
  simp only [Act.put, sA, sB, sC, i64_w, i32_w]
  rfl
 refine pure_ (i := 20) (N := some 102) (v := ?_) (a' := ?_) (bs 22 2097151) rfl rfl (any_of HT_.out (by kernel_rfl)) (fun _ _ _ h => h) (Or.inl ⟨by rfl, ?_⟩) ?_ ?_
 rotate_left
 ·intro w'
  go_simp
  with_reducible rfl
 rotate_left
 ·simp only [Act.put, sA, sB, sC, i64_w, i32_w]
  rfl
 refine one_ (i := 21) (N := none) (bs 22 4194303) rfl rfl (one_of HT_.out (by kernel_rfl)) (by decide) (fun K hK => ?_)
 have hs73 : w72.cell? ⟨G3, 0, none⟩ = some (.int .i64 0) := (blk_cell E1.out 0).trans rfl
 have hfs73 := blk_frozen E1.out 0
 have E4A := E0v.out
 have E4B := E0x.out
 have E4C := E0y.out
 have E4D := Z5.out
 have E4E := Z6.out
 have E4F := Z7.out
 have E4G := J2.out
 have E4H := E0z.out
 have E4I := E0w.out
 have E4J := E0s.out
 have E4K := E0t.out
 have E4L := J7.out
 have E4M := J8.out
 have E4N := Z0.out
 have E4O := Z1.out
 have E4P := E0u.out
 have hs74 : w72.cell? ⟨G3, 1, none⟩ = some (.int .i64 0) := (blk_cell E1.out 1).trans rfl
 have hfs74 := blk_frozen E1.out 1
 have E4Q := E0v.out
 have E4R := E0x.out
 have E4S := E0y.out
 have E4T := Z5.out
 have E4U := Z6.out
 have E4V := Z7.out
 have E4W := J2.out
 have E4X := E0z.out
 have E4Y := E0w.out
 have E4Z := E0s.out
 have E5a := E0t.out
 have E5b := J7.out
 have E5c := J8.out
 have E5d := Z0.out
 have E5e := Z1.out
 have E5f := E0u.out
 refine skip_ (w1 := ?_) (by rfl) rfl ?_ ?_
 rotate_left
 ·go_simp
  rfl
 refine hK.out _ _ ⟨((cell_far (p := ⟨G3, _, none⟩) Z5.out _).trans (((cell_far (p := ⟨G3, _, none⟩) Z5.out _).trans (hHeld.1)))), ((cell_far (p := ⟨G3, _, none⟩) Z5.out _).trans (((cell_far (p := ⟨G3, _, none⟩) Z5.out _).trans (hHeld.2.1)))), ((cell_far (p := ⟨G3, _, none⟩) Z6.out _).trans (((cell_far (p := ⟨G3, _, none⟩) Z6.out _).trans (hHeld.2.2.1)))), ((cell_far (p := ⟨G3, _, none⟩) Z6.out _).trans (((cell_far (p := ⟨G3, _, none⟩) Z6.out _).trans (hHeld.2.2.2.1)))), ((cell_far (p := ⟨G3, _, none⟩) Z7.out _).trans (((cell_far (p := ⟨G3, _, none⟩) Z7.out _).trans (hHeld.2.2.2.2.1)))), ((cell_far (p := ⟨G3, _, none⟩) Z7.out _).trans (((cell_far (p := ⟨G3, _, none⟩) Z7.out _).trans (hHeld.2.2.2.2.2.1)))), ((cell_far (p := ⟨G3, _, none⟩) J2.out _).trans (((cell_far (p := ⟨G3, _, none⟩) J2.out _).trans (hHeld.2.2.2.2.2.2.1)))), ((cell_far (p := ⟨G3, _, none⟩) J2.out _).trans (((cell_far (p := ⟨G3, _, none⟩) J2.out _).trans (hHeld.2.2.2.2.2.2.2))))⟩ (fun hHeld => ?_)
 clear hK K
 refine done_ (done_of HT_.out (by kernel_rfl)) ?_
 try go_wp2
 refine bodyPost_ret (results_cell_row rfl _ _ G3 28 #[.int .i64 t134, .int .i64 t135] (0, 0) _ rfl (by exact zp E1 rfl) Try.underlying28 rfl (by kernel_rfl)) rfl ?_
 exact ⟨by first | rfl | (simp [errW_none, errW_some] <;> rfl) | (simp only [← Q1, ← Q2, ← Q3, ← Q4]; first | rfl | (simp [errW_none, errW_some] <;> rfl)) | (simp [*, errW_none, errW_some] <;> rfl), by exact zbo HB E0K⟩
end Go.Proofs.Ytnfbabmceddciaa.G
