/- Contracts of functions of the program, each as it is called: what it computes (.f), that it computes no less with more rounds (.mono), and that a call returns just that (.calls). No conditions but those that each contract names. Written by a program of this session (wip/gx.py over the kit's print). -/
import Derived.Test.YtnfbabmceddciaaG0
import Derived.Test.YtnfbabmceddciaaG1
namespace Go.Proofs.Ytnfbabmceddciaa.G
open Go.RowKit Go.Proofs.YtnfbabmceddciaaW.PrintWords Go.Proofs.YtnfbabmceddciaaW.PrintLast Go.Proofs.YtnfbabmceddciaaW.PrintMore
attribute [local go_sem] max2_int min2_int max_two min_two max_three min_three max_four min_four max_five min_five   -- for this text's walks alone
set_option linter.unusedVariables false
set_option linter.unusedSimpArgs false


/-! ### warp_at: function 29 -/
def warp_at.f (k : Nat) (a0_0 : Int) (a0_1 : Int) (a0_2 : Int) (l0_3 : List (S28)) (a1 : Int) (a2 : Int) : Option (Int × Int) := (warp_cell.f a1 a0_0 a0_2).bind fun bt119 => ((warp_cell.f a2 a0_1 a0_2).bind fun bt122 => (if 0 ≤ (wrap64 ((wrap64 (bt122.1 * a0_0)) + bt119.1)) then (if (wrap64 ((wrap64 (bt122.1 * a0_0)) + bt119.1)) < (l0_3.length : Int) then (if 0 ≤ (wrap64 ((wrap64 ((wrap64 (bt122.1 * a0_0)) + bt119.1)) + 1)) then (if (wrap64 ((wrap64 ((wrap64 (bt122.1 * a0_0)) + bt119.1)) + 1)) < (l0_3.length : Int) then (if 0 ≤ (wrap64 ((wrap64 ((wrap64 (bt122.1 + 1)) * a0_0)) + bt119.1)) then (if (wrap64 ((wrap64 ((wrap64 (bt122.1 + 1)) * a0_0)) + bt119.1)) < (l0_3.length : Int) then (if 0 ≤ (wrap64 ((wrap64 ((wrap64 ((wrap64 (bt122.1 + 1)) * a0_0)) + bt119.1)) + 1)) then (if (wrap64 ((wrap64 ((wrap64 ((wrap64 (bt122.1 + 1)) * a0_0)) + bt119.1)) + 1)) < (l0_3.length : Int) then ((warp_at_1.f k ((rd_T28 l0_3 (wrap64 ((wrap64 (bt122.1 * a0_0)) + bt119.1))).f0) ((rd_T28 l0_3 (wrap64 ((wrap64 ((wrap64 (bt122.1 * a0_0)) + bt119.1)) + 1))).f0) ((rd_T28 l0_3 (wrap64 ((wrap64 ((wrap64 (bt122.1 + 1)) * a0_0)) + bt119.1))).f0) ((rd_T28 l0_3 (wrap64 ((wrap64 ((wrap64 ((wrap64 (bt122.1 + 1)) * a0_0)) + bt119.1)) + 1))).f0) a0_2 bt119.2 bt122.2).bind fun t134 => ((warp_at_1.f k ((rd_T28 l0_3 (wrap64 ((wrap64 (bt122.1 * a0_0)) + bt119.1))).f1) ((rd_T28 l0_3 (wrap64 ((wrap64 ((wrap64 (bt122.1 * a0_0)) + bt119.1)) + 1))).f1) ((rd_T28 l0_3 (wrap64 ((wrap64 ((wrap64 (bt122.1 + 1)) * a0_0)) + bt119.1))).f1) ((rd_T28 l0_3 (wrap64 ((wrap64 ((wrap64 ((wrap64 (bt122.1 + 1)) * a0_0)) + bt119.1)) + 1))).f1) a0_2 bt119.2 bt122.2).bind fun t135 => (some (t134, t135)))) else (none)) else (none)) else (none)) else (none)) else (none)) else (none)) else (none)) else (none)))
theorem warp_at.mono : ∀ a0 a1 a2 a3 a4 a5 k, LeO (warp_at.f k a0 a1 a2 a3 a4 a5) (warp_at.f (k + 1) a0 a1 a2 a3 a4 a5) := by
 intro a0 a1 a2 a3 a4 a5 k
 unfold warp_at.f
 repeat' first
   | (with_reducible exact warp_at_1.mono _ _ _ _ _ _ _ _)
   | (with_reducible exact LeO.refl _)
   | (with_reducible exact LeO.none _)
   | (with_reducible refine LeO.ite ?_ ?_)
   | (with_reducible refine LeO.bind ?_ (fun _ => ?_))
   | exact warp_at_1.mono _ _ _ _ _ _ _ _
   | exact LeO.none _
   | refine LeO.ite ?_ ?_
   | refine LeO.bind ?_ (fun _ => ?_)
def warp_at.T3 : Bool × List (List Nat × List Nat) := (true, [([], []), ([0], [0]), ([], []), ([], []), ([3], [3]), ([2, 4], [2, 4]), ([], []), ([5, 6], [5, 6]), ([1, 7], [1, 7]), ([8], [8]), ([], []), ([10], [10]), ([], []), ([], []), ([13], [13]), ([12, 14], [12, 14]), ([], []), ([15, 16], [15, 16]), ([17], [17]), ([11, 18], [11, 18]), ([19], [19]), ([], []), ([], []), ([21, 9, 0, 1, 2, 3, 4, 5, 6, 7, 8, 9, 21, 22], [9, 21]), ([22, 20, 23, 0, 1, 2, 3, 4, 5, 6, 7, 8, 9, 10, 11, 12, 13, 14, 15, 16, 17, 18, 19, 20, 21, 22, 23], [20, 22])])
def warp_at.B3 : List Nat := [0, 1, 0, 0, 8, 28, 0, 124, 255, 511, 0, 1024, 0, 0, 8192, 28672, 0, 126976, 258048, 523264, 1047552, 0, 0, 6292479, 16777215]
theorem warp_at.tab3 : rtab .any (opsOf Try.f29 3) = warp_at.T3 := by kernel_rfl
theorem warp_at.bits3 : waitsOk warp_at.T3.2 warp_at.B3 = true := by kernel_rfl
def warp_at.T4 : Bool × List (List Nat × List Nat) := (true, [([], []), ([0], [0]), ([], []), ([2], [2]), ([], []), ([4], [4]), ([3, 5], [3, 5]), ([], []), ([6, 7], [6, 7]), ([1, 8], [1, 8]), ([9], [9]), ([], []), ([11], [11]), ([], []), ([13], [13]), ([], []), ([15], [15]), ([14, 16], [14, 16]), ([], []), ([17, 18], [17, 18]), ([19], [19]), ([12, 20], [12, 20]), ([21], [21]), ([], []), ([], []), ([23, 10, 0, 1, 2, 3, 4, 5, 6, 7, 8, 9, 10, 23, 24], [10, 23]), ([24, 22, 25, 0, 1, 2, 3, 4, 5, 6, 7, 8, 9, 10, 11, 12, 13, 14, 15, 16, 17, 18, 19, 20, 21, 22, 23, 24, 25], [22, 24])])
def warp_at.B4 : List Nat := [0, 1, 0, 4, 0, 16, 60, 0, 252, 511, 1023, 0, 2048, 0, 8192, 0, 32768, 122880, 0, 516096, 1040384, 2095104, 4192256, 0, 0, 25167871, 67108863]
theorem warp_at.tab4 : rtab .any (opsOf Try.f29 4) = warp_at.T4 := by kernel_rfl
theorem warp_at.bits4 : waitsOk warp_at.T4.2 warp_at.B4 = true := by kernel_rfl
def warp_at.T7 : Bool × List (List Nat × List Nat) := (true, [([], []), ([], []), ([1], [1]), ([], []), ([3], [3]), ([], []), ([5], [5]), ([], []), ([7], [7]), ([0, 2, 4, 6, 8], [0, 2, 4, 6, 8]), ([], []), ([], []), ([11], [11]), ([], []), ([13], [13]), ([], []), ([15], [15]), ([], []), ([17], [17]), ([10, 12, 14, 16, 18, 9], [10, 12, 14, 16, 18]), ([9, 19], [9, 19]), ([20, 19, 0, 1, 2, 3, 4, 5, 6, 7, 8, 9, 10, 11, 12, 13, 14, 15, 16, 17, 18, 19, 20], [20])])
def warp_at.B7 : List Nat := [0, 0, 2, 0, 8, 0, 32, 0, 128, 511, 0, 0, 2048, 0, 8192, 0, 32768, 0, 131072, 524287, 1048575, 2097151]
theorem warp_at.tab7 : rtab .any (opsOf Try.f29 7) = warp_at.T7 := by kernel_rfl
theorem warp_at.bits7 : waitsOk warp_at.T7.2 warp_at.B7 = true := by kernel_rfl
set_option maxHeartbeats 8000000 in
set_option maxRecDepth 100000 in
theorem warp_at.calls (k : Nat) (a0_0 : Int) (a0_1 : Int) (a0_2 : Int) (A0_3 : Option Addr) (c0_3 : Nat) (l0_3 : List (S28)) (a1 : Int) (a2 : Int) (r1 : Int) (r2 : Int) (w : World) (hr0_3 : Kd.C k28 w A0_3 l0_3.length l0_3) (hc0_3 : l0_3.length ≤ c0_3) (h : warp_at.f k a0_0 a0_1 a0_2 l0_3 a1 a2 = some (r1, r2)) :
  Calls Try.prog 29 #[.agg #[.int .i64 a0_0, .int .i64 a0_1, .int .i64 a0_2, .slice A0_3 l0_3.length c0_3], .int .i64 a1, .int .i64 a2] w fun e w' => e = .returned (.agg #[.int .i64 r1, .int .i64 r2]) ∧ Below w.heap.size w w' := by
 have hu24 := Try.underlying24
 have hu28 := Try.underlying28
 have HR0_3 := Aside0.mk hr0_3
 have HC0_3 := Aside0.mk hc0_3
 clear hr0_3 hc0_3
 have HB := Aside0.mk (Below.refl w.heap.size w)
 have H : ((warp_cell.f a1 a0_0 a0_2).bind fun bt119 => ((warp_cell.f a2 a0_1 a0_2).bind fun bt122 => (if 0 ≤ (wrap64 ((wrap64 (bt122.1 * a0_0)) + bt119.1)) then (if (wrap64 ((wrap64 (bt122.1 * a0_0)) + bt119.1)) < (l0_3.length : Int) then (if 0 ≤ (wrap64 ((wrap64 ((wrap64 (bt122.1 * a0_0)) + bt119.1)) + 1)) then (if (wrap64 ((wrap64 ((wrap64 (bt122.1 * a0_0)) + bt119.1)) + 1)) < (l0_3.length : Int) then (if 0 ≤ (wrap64 ((wrap64 ((wrap64 (bt122.1 + 1)) * a0_0)) + bt119.1)) then (if (wrap64 ((wrap64 ((wrap64 (bt122.1 + 1)) * a0_0)) + bt119.1)) < (l0_3.length : Int) then (if 0 ≤ (wrap64 ((wrap64 ((wrap64 ((wrap64 (bt122.1 + 1)) * a0_0)) + bt119.1)) + 1)) then (if (wrap64 ((wrap64 ((wrap64 ((wrap64 (bt122.1 + 1)) * a0_0)) + bt119.1)) + 1)) < (l0_3.length : Int) then ((warp_at_1.f k ((rd_T28 l0_3 (wrap64 ((wrap64 (bt122.1 * a0_0)) + bt119.1))).f0) ((rd_T28 l0_3 (wrap64 ((wrap64 ((wrap64 (bt122.1 * a0_0)) + bt119.1)) + 1))).f0) ((rd_T28 l0_3 (wrap64 ((wrap64 ((wrap64 (bt122.1 + 1)) * a0_0)) + bt119.1))).f0) ((rd_T28 l0_3 (wrap64 ((wrap64 ((wrap64 ((wrap64 (bt122.1 + 1)) * a0_0)) + bt119.1)) + 1))).f0) a0_2 bt119.2 bt122.2).bind fun t134 => ((warp_at_1.f k ((rd_T28 l0_3 (wrap64 ((wrap64 (bt122.1 * a0_0)) + bt119.1))).f1) ((rd_T28 l0_3 (wrap64 ((wrap64 ((wrap64 (bt122.1 * a0_0)) + bt119.1)) + 1))).f1) ((rd_T28 l0_3 (wrap64 ((wrap64 ((wrap64 (bt122.1 + 1)) * a0_0)) + bt119.1))).f1) ((rd_T28 l0_3 (wrap64 ((wrap64 ((wrap64 ((wrap64 (bt122.1 + 1)) * a0_0)) + bt119.1)) + 1))).f1) a0_2 bt119.2 bt122.2).bind fun t135 => (some (t134, t135)))) else (none)) else (none)) else (none)) else (none)) else (none)) else (none)) else (none)) else (none)))) = some (r1, r2) := h
 clear h
 replace H := Option.bind_eq_some_iff.mp H
 obtain ⟨⟨t119, t120⟩, A40, H⟩ := H
 replace H : ((warp_cell.f a2 a0_1 a0_2).bind fun bt122 => (if 0 ≤ (wrap64 ((wrap64 (bt122.1 * a0_0)) + t119)) then (if (wrap64 ((wrap64 (bt122.1 * a0_0)) + t119)) < (l0_3.length : Int) then (if 0 ≤ (wrap64 ((wrap64 ((wrap64 (bt122.1 * a0_0)) + t119)) + 1)) then (if (wrap64 ((wrap64 ((wrap64 (bt122.1 * a0_0)) + t119)) + 1)) < (l0_3.length : Int) then (if 0 ≤ (wrap64 ((wrap64 ((wrap64 (bt122.1 + 1)) * a0_0)) + t119)) then (if (wrap64 ((wrap64 ((wrap64 (bt122.1 + 1)) * a0_0)) + t119)) < (l0_3.length : Int) then (if 0 ≤ (wrap64 ((wrap64 ((wrap64 ((wrap64 (bt122.1 + 1)) * a0_0)) + t119)) + 1)) then (if (wrap64 ((wrap64 ((wrap64 ((wrap64 (bt122.1 + 1)) * a0_0)) + t119)) + 1)) < (l0_3.length : Int) then ((warp_at_1.f k ((rd_T28 l0_3 (wrap64 ((wrap64 (bt122.1 * a0_0)) + t119))).f0) ((rd_T28 l0_3 (wrap64 ((wrap64 ((wrap64 (bt122.1 * a0_0)) + t119)) + 1))).f0) ((rd_T28 l0_3 (wrap64 ((wrap64 ((wrap64 (bt122.1 + 1)) * a0_0)) + t119))).f0) ((rd_T28 l0_3 (wrap64 ((wrap64 ((wrap64 ((wrap64 (bt122.1 + 1)) * a0_0)) + t119)) + 1))).f0) a0_2 t120 bt122.2).bind fun t134 => ((warp_at_1.f k ((rd_T28 l0_3 (wrap64 ((wrap64 (bt122.1 * a0_0)) + t119))).f1) ((rd_T28 l0_3 (wrap64 ((wrap64 ((wrap64 (bt122.1 * a0_0)) + t119)) + 1))).f1) ((rd_T28 l0_3 (wrap64 ((wrap64 ((wrap64 (bt122.1 + 1)) * a0_0)) + t119))).f1) ((rd_T28 l0_3 (wrap64 ((wrap64 ((wrap64 ((wrap64 (bt122.1 + 1)) * a0_0)) + t119)) + 1))).f1) a0_2 t120 bt122.2).bind fun t135 => (some (t134, t135)))) else (none)) else (none)) else (none)) else (none)) else (none)) else (none)) else (none)) else (none))) = some (r1, r2) := H
 have A4 := Aside0.mk A40
 clear A40
 replace H := Option.bind_eq_some_iff.mp H
 obtain ⟨⟨t122, t123⟩, A50, H⟩ := H
 replace H : (if 0 ≤ (wrap64 ((wrap64 (t122 * a0_0)) + t119)) then (if (wrap64 ((wrap64 (t122 * a0_0)) + t119)) < (l0_3.length : Int) then (if 0 ≤ (wrap64 ((wrap64 ((wrap64 (t122 * a0_0)) + t119)) + 1)) then (if (wrap64 ((wrap64 ((wrap64 (t122 * a0_0)) + t119)) + 1)) < (l0_3.length : Int) then (if 0 ≤ (wrap64 ((wrap64 ((wrap64 (t122 + 1)) * a0_0)) + t119)) then (if (wrap64 ((wrap64 ((wrap64 (t122 + 1)) * a0_0)) + t119)) < (l0_3.length : Int) then (if 0 ≤ (wrap64 ((wrap64 ((wrap64 ((wrap64 (t122 + 1)) * a0_0)) + t119)) + 1)) then (if (wrap64 ((wrap64 ((wrap64 ((wrap64 (t122 + 1)) * a0_0)) + t119)) + 1)) < (l0_3.length : Int) then ((warp_at_1.f k ((rd_T28 l0_3 (wrap64 ((wrap64 (t122 * a0_0)) + t119))).f0) ((rd_T28 l0_3 (wrap64 ((wrap64 ((wrap64 (t122 * a0_0)) + t119)) + 1))).f0) ((rd_T28 l0_3 (wrap64 ((wrap64 ((wrap64 (t122 + 1)) * a0_0)) + t119))).f0) ((rd_T28 l0_3 (wrap64 ((wrap64 ((wrap64 ((wrap64 (t122 + 1)) * a0_0)) + t119)) + 1))).f0) a0_2 t120 t123).bind fun t134 => ((warp_at_1.f k ((rd_T28 l0_3 (wrap64 ((wrap64 (t122 * a0_0)) + t119))).f1) ((rd_T28 l0_3 (wrap64 ((wrap64 ((wrap64 (t122 * a0_0)) + t119)) + 1))).f1) ((rd_T28 l0_3 (wrap64 ((wrap64 ((wrap64 (t122 + 1)) * a0_0)) + t119))).f1) ((rd_T28 l0_3 (wrap64 ((wrap64 ((wrap64 ((wrap64 (t122 + 1)) * a0_0)) + t119)) + 1))).f1) a0_2 t120 t123).bind fun t135 => (some (t134, t135)))) else (none)) else (none)) else (none)) else (none)) else (none)) else (none)) else (none)) else (none)) = some (r1, r2) := H
 have A5 := Aside0.mk A50
 clear A50
 obtain ⟨ji6, hji6⟩ : ∃ j_ : Int, (wrap64 ((wrap64 (t122 * a0_0)) + t119)) = j_ := ⟨_, rfl⟩
 replace H : (if 0 ≤ (ji6) then (if (ji6) < (l0_3.length : Int) then (if 0 ≤ (wrap64 ((ji6) + 1)) then (if (wrap64 ((ji6) + 1)) < (l0_3.length : Int) then (if 0 ≤ (wrap64 ((wrap64 ((wrap64 (t122 + 1)) * a0_0)) + t119)) then (if (wrap64 ((wrap64 ((wrap64 (t122 + 1)) * a0_0)) + t119)) < (l0_3.length : Int) then (if 0 ≤ (wrap64 ((wrap64 ((wrap64 ((wrap64 (t122 + 1)) * a0_0)) + t119)) + 1)) then (if (wrap64 ((wrap64 ((wrap64 ((wrap64 (t122 + 1)) * a0_0)) + t119)) + 1)) < (l0_3.length : Int) then ((warp_at_1.f k ((rd_T28 l0_3 (ji6)).f0) ((rd_T28 l0_3 (wrap64 ((ji6) + 1))).f0) ((rd_T28 l0_3 (wrap64 ((wrap64 ((wrap64 (t122 + 1)) * a0_0)) + t119))).f0) ((rd_T28 l0_3 (wrap64 ((wrap64 ((wrap64 ((wrap64 (t122 + 1)) * a0_0)) + t119)) + 1))).f0) a0_2 t120 t123).bind fun t134 => ((warp_at_1.f k ((rd_T28 l0_3 (ji6)).f1) ((rd_T28 l0_3 (wrap64 ((ji6) + 1))).f1) ((rd_T28 l0_3 (wrap64 ((wrap64 ((wrap64 (t122 + 1)) * a0_0)) + t119))).f1) ((rd_T28 l0_3 (wrap64 ((wrap64 ((wrap64 ((wrap64 (t122 + 1)) * a0_0)) + t119)) + 1))).f1) a0_2 t120 t123).bind fun t135 => (some (t134, t135)))) else (none)) else (none)) else (none)) else (none)) else (none)) else (none)) else (none)) else (none)) = some (r1, r2) := by first | (rw [hji6] at H; exact H) | (simp only [hji6] at H ⊢; exact H)
 (try rw [hji6] at A4)
 (try rw [hji6] at A5)
 have hji6w : (IntKind.i64.wrap ((wrap64 (t122 * a0_0)) + t119)) = ji6 := (i64_w _).trans hji6
 by_cases c7 : 0 ≤ (ji6)
 ·rw [if_pos c7] at H
  have c7b0 : decide (0 ≤ (ji6)) = true := decide_eq_true c7
  clear c7
  by_cases c8 : (ji6) < (l0_3.length : Int)
  ·rw [if_pos c8] at H
   have c8b0 : decide ((ji6) < (l0_3.length : Int)) = true := decide_eq_true c8
   clear c8
   obtain ⟨ji9, hji9⟩ : ∃ j_ : Int, (wrap64 ((ji6) + 1)) = j_ := ⟨_, rfl⟩
   replace H : (if 0 ≤ (ji9) then (if (ji9) < (l0_3.length : Int) then (if 0 ≤ (wrap64 ((wrap64 ((wrap64 (t122 + 1)) * a0_0)) + t119)) then (if (wrap64 ((wrap64 ((wrap64 (t122 + 1)) * a0_0)) + t119)) < (l0_3.length : Int) then (if 0 ≤ (wrap64 ((wrap64 ((wrap64 ((wrap64 (t122 + 1)) * a0_0)) + t119)) + 1)) then (if (wrap64 ((wrap64 ((wrap64 ((wrap64 (t122 + 1)) * a0_0)) + t119)) + 1)) < (l0_3.length : Int) then ((warp_at_1.f k ((rd_T28 l0_3 (ji6)).f0) ((rd_T28 l0_3 (ji9)).f0) ((rd_T28 l0_3 (wrap64 ((wrap64 ((wrap64 (t122 + 1)) * a0_0)) + t119))).f0) ((rd_T28 l0_3 (wrap64 ((wrap64 ((wrap64 ((wrap64 (t122 + 1)) * a0_0)) + t119)) + 1))).f0) a0_2 t120 t123).bind fun t134 => ((warp_at_1.f k ((rd_T28 l0_3 (ji6)).f1) ((rd_T28 l0_3 (ji9)).f1) ((rd_T28 l0_3 (wrap64 ((wrap64 ((wrap64 (t122 + 1)) * a0_0)) + t119))).f1) ((rd_T28 l0_3 (wrap64 ((wrap64 ((wrap64 ((wrap64 (t122 + 1)) * a0_0)) + t119)) + 1))).f1) a0_2 t120 t123).bind fun t135 => (some (t134, t135)))) else (none)) else (none)) else (none)) else (none)) else (none)) else (none)) = some (r1, r2) := by first | (rw [hji9] at H; exact H) | (simp only [hji9] at H ⊢; exact H)
   (try rw [hji9] at A4)
   (try rw [hji9] at A5)
   have hji9w : (IntKind.i64.wrap ((ji6) + 1)) = ji9 := (i64_w _).trans hji9
   by_cases c10 : 0 ≤ (ji9)
   ·rw [if_pos c10] at H
    have c10b0 : decide (0 ≤ (ji9)) = true := decide_eq_true c10
    clear c10
    by_cases c11 : (ji9) < (l0_3.length : Int)
    ·rw [if_pos c11] at H
     have c11b0 : decide ((ji9) < (l0_3.length : Int)) = true := decide_eq_true c11
     clear c11
     obtain ⟨ji12, hji12⟩ : ∃ j_ : Int, (wrap64 ((wrap64 ((wrap64 (t122 + 1)) * a0_0)) + t119)) = j_ := ⟨_, rfl⟩
     replace H : (if 0 ≤ (ji12) then (if (ji12) < (l0_3.length : Int) then (if 0 ≤ (wrap64 ((ji12) + 1)) then (if (wrap64 ((ji12) + 1)) < (l0_3.length : Int) then ((warp_at_1.f k ((rd_T28 l0_3 (ji6)).f0) ((rd_T28 l0_3 (ji9)).f0) ((rd_T28 l0_3 (ji12)).f0) ((rd_T28 l0_3 (wrap64 ((ji12) + 1))).f0) a0_2 t120 t123).bind fun t134 => ((warp_at_1.f k ((rd_T28 l0_3 (ji6)).f1) ((rd_T28 l0_3 (ji9)).f1) ((rd_T28 l0_3 (ji12)).f1) ((rd_T28 l0_3 (wrap64 ((ji12) + 1))).f1) a0_2 t120 t123).bind fun t135 => (some (t134, t135)))) else (none)) else (none)) else (none)) else (none)) = some (r1, r2) := by first | (rw [hji12] at H; exact H) | (simp only [hji12] at H ⊢; exact H)
     (try rw [hji12] at A4)
     (try rw [hji12] at A5)
     have hji12w : (IntKind.i64.wrap ((wrap64 ((wrap64 (t122 + 1)) * a0_0)) + t119)) = ji12 := (i64_w _).trans hji12
     by_cases c13 : 0 ≤ (ji12)
     ·rw [if_pos c13] at H
      have c13b0 : decide (0 ≤ (ji12)) = true := decide_eq_true c13
      clear c13
      by_cases c14 : (ji12) < (l0_3.length : Int)
      ·rw [if_pos c14] at H
       have c14b0 : decide ((ji12) < (l0_3.length : Int)) = true := decide_eq_true c14
       clear c14
       obtain ⟨ji15, hji15⟩ : ∃ j_ : Int, (wrap64 ((ji12) + 1)) = j_ := ⟨_, rfl⟩
       replace H : (if 0 ≤ (ji15) then (if (ji15) < (l0_3.length : Int) then ((warp_at_1.f k ((rd_T28 l0_3 (ji6)).f0) ((rd_T28 l0_3 (ji9)).f0) ((rd_T28 l0_3 (ji12)).f0) ((rd_T28 l0_3 (ji15)).f0) a0_2 t120 t123).bind fun t134 => ((warp_at_1.f k ((rd_T28 l0_3 (ji6)).f1) ((rd_T28 l0_3 (ji9)).f1) ((rd_T28 l0_3 (ji12)).f1) ((rd_T28 l0_3 (ji15)).f1) a0_2 t120 t123).bind fun t135 => (some (t134, t135)))) else (none)) else (none)) = some (r1, r2) := by first | (rw [hji15] at H; exact H) | (simp only [hji15] at H ⊢; exact H)
       (try rw [hji15] at A4)
       (try rw [hji15] at A5)
       have hji15w : (IntKind.i64.wrap ((ji12) + 1)) = ji15 := (i64_w _).trans hji15
       by_cases c16 : 0 ≤ (ji15)
       ·rw [if_pos c16] at H
        have c16b0 : decide (0 ≤ (ji15)) = true := decide_eq_true c16
        clear c16
        by_cases c17 : (ji15) < (l0_3.length : Int)
        ·rw [if_pos c17] at H
         have c17b0 : decide ((ji15) < (l0_3.length : Int)) = true := decide_eq_true c17
         clear c17
         replace H := Option.bind_eq_some_iff.mp H
         obtain ⟨t134, A180, H⟩ := H
         replace H : ((warp_at_1.f k ((rd_T28 l0_3 (ji6)).f1) ((rd_T28 l0_3 (ji9)).f1) ((rd_T28 l0_3 (ji12)).f1) ((rd_T28 l0_3 (ji15)).f1) a0_2 t120 t123).bind fun t135 => (some (t134, t135))) = some (r1, r2) := H
         have A18 := Aside0.mk A180
         clear A180
         replace H := Option.bind_eq_some_iff.mp H
         obtain ⟨t135, A190, H⟩ := H
         replace H : (some (t134, t135)) = some (r1, r2) := H
         have A19 := Aside0.mk A190
         clear A190
         simp only [Option.some.injEq, Prod.mk.injEq] at H
         obtain ⟨rfl, rfl⟩ := H
         go_enter Try.func29, Try.ntmps29
         try go_wp2_with (first | ((with_reducible refine gate_dst (N := 3) rfl ?_); refine box_event ?hg (N := 3) ?hd (cs := #[.int .i64 a0_0, .int .i64 a0_1, .int .i64 a0_2, .slice A0_3 l0_3.length c0_3]) (t := 24) ?hr ?_; (case hd => rfl); (case hg => rfl); (case hr => first | (go_simp; done) | (go_simp; rfl)); intro gb117 hg w20 hbox hb; have GW117 := zg HB hg; have GE117 := zg HB hg; have n0_ := Aside0.mk (hbox); replace HB := zb HB hb; have BK117 := n0_; clear n0_; clear hb hbox hg) | ((with_reducible refine gate_dst (N := 6) rfl ?_); refine box_event ?hg (N := 6) ?hd (cs := #[.int .i64 0, .int .i64 0]) (t := 28) ?hr ?_; (case hd => rfl); (case hg => rfl); (case hr => first | (go_simp; done) | (go_simp; rfl)); intro gb118 hg w21 hbox hb; have GW118 := zg HB hg; have GE118 := zg HB hg; have NB117_118 := zn BK117 hg; have NB118_117 := zn' BK117 hg; have n0_ := Aside0.mk (hbox); replace BK117 := zk BK117 hb; replace HB := zb HB hb; have BK118 := n0_; clear n0_; clear hb hbox hg; have hnb22 := NB117_118.out; have hnc22 := NB118_117.out; obtain ⟨hcz23_0, hcz23_1, hcz23_2, hcz23_3, hfz23_0, hfz23_1, hfz23_2, hfz23_3⟩ := zq4 BK117) | ((with_reducible refine gate_callee (f := 65) rfl ?_); refine goesL_ (some 23) rfl rfl Try.func65 (by kernel_rfl) rfl #[.int .i64 a1, .int .i64 a0_0, .int .i64 a0_2] rfl (by (try simp only [List.map_toArray, List.map_cons, List.map_nil]); first | done | rfl | (simp only [List.length_drop, List.length_take]; rfl)) ?_; (with_reducible refine (warp_cell.calls a1 a0_0 a0_2 t119 t120 _ A4.out).mono ?_); rintro e w24 ⟨rfl, hb⟩; refine ⟨_, rfl, ?_⟩; replace BK117 := zk BK117 hb; replace BK118 := zk BK118 hb; replace HB := zb HB hb; (try clear hb); (try clear hb2); (try clear hk); (try clear hi)) | ((with_reducible refine gate_dst (N := 8) rfl ?_); refine box_event ?hg (N := 8) ?hd (cs := #[.int .i64 0]) (t := 3) ?hr ?_; (case hd => rfl); (case hg => rfl); (case hr => first | (go_simp; done) | (go_simp; rfl)); intro gb121 hg w25 hbox hb; have GW121 := zg HB hg; have GE121 := zg HB hg; have NB117_121 := zn BK117 hg; have NB121_117 := zn' BK117 hg; have NB118_121 := zn BK118 hg; have NB121_118 := zn' BK118 hg; have n0_ := Aside0.mk (hbox); replace BK117 := zk BK117 hb; replace BK118 := zk BK118 hb; replace HB := zb HB hb; have BK121 := n0_; clear n0_; clear hb hbox hg; have hnb26 := NB121_117.out; have hnc26 := NB117_121.out; have hnb27 := NB121_118.out; have hnc27 := NB118_121.out; obtain ⟨hcz28_0, hfz28_0⟩ := zq1 BK121; obtain ⟨hcz29_0, hcz29_1, hcz29_2, hcz29_3, hfz29_0, hfz29_1, hfz29_2, hfz29_3⟩ := zq4 BK117) | ((with_reducible refine gate_callee (f := 65) rfl ?_); refine goesL_ (some 32) rfl rfl Try.func65 (by kernel_rfl) rfl #[.int .i64 a2, .int .i64 a0_1, .int .i64 a0_2] rfl (by (try simp only [List.map_toArray, List.map_cons, List.map_nil]); first | done | rfl | (simp only [List.length_drop, List.length_take]; rfl)) ?_; (with_reducible refine (warp_cell.calls a2 a0_1 a0_2 t122 t123 _ A5.out).mono ?_); rintro e w30 ⟨rfl, hb⟩; refine ⟨_, rfl, ?_⟩; have n0_ := Aside0.mk (blk_below (g := gb121) (o := .cells #[.int .i64 t120] 3 (0, 0)) (by exact zp BK121 rfl) hb); have n1_ := Aside0.mk (below_step (by exact zbo HB GE121) hb); replace BK117 := zfk BK117 NB117_121 hb; replace BK118 := zfk BK118 NB118_121 hb; clear BK121; clear HB; have BK121 := n0_; have HB := n1_; clear n0_ n1_; (try clear hb); (try clear hb2); (try clear hk); (try clear hi)) | ((with_reducible refine gate_dst (N := 10) rfl ?_); refine box_event ?hg (N := 10) ?hd (cs := #[.int .i64 0]) (t := 3) ?hr ?_; (case hd => rfl); (case hg => rfl); (case hr => first | (go_simp; done) | (go_simp; rfl)); intro gb124 hg w31 hbox hb; have GW124 := zg HB hg; have GE124 := zg HB hg; have NB117_124 := zn BK117 hg; have NB124_117 := zn' BK117 hg; have NB118_124 := zn BK118 hg; have NB124_118 := zn' BK118 hg; have NB121_124 := zn BK121 hg; have NB124_121 := zn' BK121 hg; have n0_ := Aside0.mk (hbox); replace BK117 := zk BK117 hb; replace BK118 := zk BK118 hb; replace BK121 := zk BK121 hb; replace HB := zb HB hb; have BK124 := n0_; clear n0_; clear hb hbox hg; have hnb32 := NB124_117.out; have hnc32 := NB117_124.out; have hnb33 := NB124_118.out; have hnc33 := NB118_124.out; have hnb34 := NB124_121.out; have hnc34 := NB121_124.out; obtain ⟨hcz35_0, hfz35_0⟩ := zq1 BK124))
         have n0_ : Aside0 ((w31.setCell ⟨gb124, 0, none⟩ (.int .i64 t123)).heap[gb117]? = some (.cells #[.int .i64 a0_0, .int .i64 a0_1, .int .i64 a0_2, .slice A0_3 l0_3.length c0_3] 24 (0, 0))) := ⟨by exact zf BK117 NB117_124⟩
         have n1_ : Aside0 ((w31.setCell ⟨gb124, 0, none⟩ (.int .i64 t123)).heap[gb118]? = some (.cells #[.int .i64 0, .int .i64 0] 28 (0, 0))) := ⟨by exact zf BK118 NB118_124⟩
         have n2_ : Aside0 ((w31.setCell ⟨gb124, 0, none⟩ (.int .i64 t123)).heap[gb121]? = some (.cells #[.int .i64 t120] 3 (0, 0))) := ⟨by exact zf BK121 NB121_124⟩
         have n3_ : Aside0 ((w31.setCell ⟨gb124, 0, none⟩ (.int .i64 t123)).heap[gb124]? = some (.cells #[.int .i64 t123] 3 (0, 0))) := ⟨by exact zp BK124 rfl⟩
         have n4_ : Aside0 (Below w.heap.size w (w31.setCell ⟨gb124, 0, none⟩ (.int .i64 t123))) := ⟨by exact zbo HB GE124⟩
         (try clear BK117)
         (try clear BK118)
         (try clear BK121)
         (try clear BK124)
         (try clear HB)
         generalize (w31.setCell ⟨gb124, 0, none⟩ (.int .i64 t123)) = w36 at n0_ n1_ n2_ n3_ n4_ ⊢
         have BK117 := n0_
         have BK118 := n1_
         have BK121 := n2_
         have BK124 := n3_
         have HB := n4_
         clear n0_ n1_ n2_ n3_ n4_
         replace BK117 := zkd BK117
         replace BK118 := zkd BK118
         replace BK121 := zkd BK121
         replace BK124 := zkd BK124
         replace HB := zbd HB
         have p125 : 0 ≤ ((ji6) : Int) := of_decide_eq_true (by first | (with_reducible assumption) | assumption)
         have q125 : (ji6) < (l0_3.length : Int) := of_decide_eq_true (by first | (with_reducible assumption) | assumption)
         obtain ⟨ad125, e125, hx125_0, hx125_1⟩ := at_T28 HR0_3.out (ji6) p125 q125
         have hw125_1 := hx125_1
         have hw125_0 := hx125_0
         cases e125
         replace hx125_0 := (HB.out.cell (World.block_lt_of_cell? w _ hx125_0)).trans hx125_0
         replace hx125_1 := (HB.out.cell (World.block_lt_of_cell? w _ hx125_1)).trans hx125_1
         replace p125 := eq_true p125
         replace q125 := eq_true q125
         have p126 : 0 ≤ ((ji9) : Int) := of_decide_eq_true (by first | (with_reducible assumption) | assumption)
         have q126 : (ji9) < (l0_3.length : Int) := of_decide_eq_true (by first | (with_reducible assumption) | assumption)
         obtain ⟨ad126, e126, hx126_0, hx126_1⟩ := at_T28 HR0_3.out (ji9) p126 q126
         have hw126_1 := hx126_1
         have hw126_0 := hx126_0
         obtain rfl : ad125 = ad126 := (by injection e126)
         replace hx126_0 := (HB.out.cell (World.block_lt_of_cell? w _ hx126_0)).trans hx126_0
         replace hx126_1 := (HB.out.cell (World.block_lt_of_cell? w _ hx126_1)).trans hx126_1
         replace p126 := eq_true p126
         replace q126 := eq_true q126
         refine start_ (n := 25) (S := fun w' => w'.cell? ⟨gb117, 0, none⟩ = some (.int .i64 a0_0) ∧ w'.cell? ⟨gb117, 1, none⟩ = some (.int .i64 a0_1) ∧ w'.cell? ⟨gb117, 2, none⟩ = some (.int .i64 a0_2) ∧ w'.cell? ⟨gb117, 3, none⟩ = some (.slice (some ad125) l0_3.length c0_3) ∧ w'.cell? (ad125.add (((ji6)).toNat * 2)) = some (.int .i64 ((rd_T28 l0_3 (ji6)).f0)) ∧ w'.cell? ⟨(ad125.add (((ji6)).toNat * 2)).block, (ad125.add (((ji6)).toNat * 2)).off + 1, none⟩ = some (.int .i64 ((rd_T28 l0_3 (ji6)).f1)) ∧ w'.cell? (ad125.add (((ji9)).toNat * 2)) = some (.int .i64 ((rd_T28 l0_3 (ji9)).f0)) ∧ w'.cell? ⟨(ad125.add (((ji9)).toNat * 2)).block, (ad125.add (((ji9)).toNat * 2)).off + 1, none⟩ = some (.int .i64 ((rd_T28 l0_3 (ji9)).f1))) (ds := []) (bs 25 0) (by kernel_rfl) rfl rfl ⟨(blk_cell BK117.out 0).trans rfl, (blk_cell BK117.out 1).trans rfl, (blk_cell BK117.out 2).trans rfl, (blk_cell BK117.out 3).trans rfl, ((HB.out.cell (World.block_lt_of_cell? w _ hw125_0)).trans hw125_0), ((HB.out.cell (World.block_lt_of_cell? w _ hw125_1)).trans hw125_1), ((HB.out.cell (World.block_lt_of_cell? w _ hw126_0)).trans hw126_0), ((HB.out.cell (World.block_lt_of_cell? w _ hw126_1)).trans hw126_1)⟩ (fun hHeld => ?_); refine with_tabW warp_at.tab3 warp_at.bits3 (fun HT_ HW_ => ?_)
         generalize w36.drew = w37 at BK117 BK118 BK121 BK124 HB hx125_0 hx125_1 hx126_0 hx126_1 hHeld ⊢
         refine pure_ (i := 0) (N := some 35) (v := ?_) (a' := ?_) (bs 25 1) rfl rfl (any_of HT_.out (by kernel_rfl)) (fun _ _ _ h => h) (Or.inl ⟨by rfl, ?_⟩) ?_ ?_
         rotate_left
         ·intro w'
          go_simp
          with_reducible rfl
         rotate_left
         ·simp only [Act.put, sA, sB, sC, i64_w, i32_w]
          rfl
         refine pure_ (i := 2) (N := some 37) (v := ?_) (a' := ?_) (bs 25 5) rfl rfl (any_of HT_.out (by kernel_rfl)) (fun _ _ _ h => h) (Or.inl ⟨by rfl, ?_⟩) ?_ ?_
         rotate_left
         ·intro w'
          go_simp
          with_reducible rfl
         rotate_left
         ·simp only [Act.put, sA, sB, sC, i64_w, i32_w]
          rfl
         refine pure_ (i := 3) (N := some 38) (v := ?_) (a' := ?_) (bs 25 13) rfl rfl (any_of HT_.out (by kernel_rfl)) (fun _ _ _ h => h) (Or.inl ⟨by rfl, ?_⟩) ?_ ?_
         rotate_left
         ·intro w'
          go_simp
          with_reducible rfl
         rotate_left
         ·simp only [Act.put, sA, sB, sC, i64_w, i32_w]
          rfl
         refine pure_ (i := 6) (N := some 41) (v := ?_) (a' := ?_) (bs 25 77) rfl rfl (any_of HT_.out (by kernel_rfl)) (fun _ _ _ h => h) (Or.inl ⟨by rfl, ?_⟩) ?_ ?_
         rotate_left
         ·intro w'
          go_simp
          with_reducible rfl
         rotate_left
         ·simp only [Act.put, sA, sB, sC, i64_w, i32_w]
          rfl
         refine pure_ (i := 10) (N := some 45) (v := ?_) (a' := ?_) (bs 25 1101) rfl rfl (any_of HT_.out (by kernel_rfl)) (fun _ _ _ h => h) (Or.inl ⟨by rfl, ?_⟩) ?_ ?_
         rotate_left
         ·intro w'
          go_simp
          with_reducible rfl
         rotate_left
         ·simp only [Act.put, sA, sB, sC, i64_w, i32_w]
          rfl
         refine pure_ (i := 12) (N := some 47) (v := ?_) (a' := ?_) (bs 25 5197) rfl rfl (any_of HT_.out (by kernel_rfl)) (fun _ _ _ h => h) (Or.inl ⟨by rfl, ?_⟩) ?_ ?_
         rotate_left
         ·intro w'
          go_simp
          with_reducible rfl
         rotate_left
         ·simp only [Act.put, sA, sB, sC, i64_w, i32_w]
          rfl
         refine pure_ (i := 13) (N := some 48) (v := ?_) (a' := ?_) (bs 25 13389) rfl rfl (any_of HT_.out (by kernel_rfl)) (fun _ _ _ h => h) (Or.inl ⟨by rfl, ?_⟩) ?_ ?_
         rotate_left
         ·intro w'
          go_simp
          with_reducible rfl
         rotate_left
         ·simp only [Act.put, sA, sB, sC, i64_w, i32_w]
          rfl
         refine pure_ (i := 16) (N := some 51) (v := ?_) (a' := ?_) (bs 25 78925) rfl rfl (any_of HT_.out (by kernel_rfl)) (fun _ _ _ h => h) (Or.inl ⟨by rfl, ?_⟩) ?_ ?_
         rotate_left
         ·intro w'
          go_simp
          with_reducible rfl
         rotate_left
         ·simp only [Act.put, sA, sB, sC, i64_w, i32_w]
          rfl
         refine take_ (i := 1) (N := some 36) (v := ?_) (a' := ?_) (bs 25 78927) rfl rfl (take_ofW HT_.out HW_.out (by kernel_rfl)) (fun _ _ _ h => h) (Or.inl ⟨by rfl, ?_⟩) hHeld ?_ ?_
         rotate_left
         ·rintro w' ⟨s0, s1, s2, s3, s4, s5, s6, s7⟩
          go_simp
          with_reducible rfl
         rotate_left
         ·simp only [Act.put, sA, sB, sC, i64_w, i32_w]
          rfl
         refine take_ (i := 4) (N := some 39) (v := ?_) (a' := ?_) (bs 25 78943) rfl rfl (take_ofW HT_.out HW_.out (by kernel_rfl)) (fun _ _ _ h => h) (Or.inl ⟨by rfl, ?_⟩) hHeld ?_ ?_
         rotate_left
         ·rintro w' ⟨s0, s1, s2, s3, s4, s5, s6, s7⟩
          go_simp
          with_reducible rfl
         rotate_left
         ·simp only [Act.put, sA, sB, sC, i64_w, i32_w]
          rfl
         refine pure_ (i := 5) (N := some 40) (v := ?_) (a' := ?_) (bs 25 78975) rfl rfl (any_of HT_.out (by kernel_rfl)) (fun _ _ _ h => h) (Or.inl ⟨by rfl, ?_⟩) ?_ ?_
         rotate_left
         ·intro w'
          go_simp
          with_reducible rfl
         rotate_left
         ·simp only [Act.put, sA, sB, sC, i64_w, i32_w]
          rfl
         refine pure_ (i := 7) (N := some 42) (v := ?_) (a' := ?_) (bs 25 79103) rfl rfl (any_of HT_.out (by kernel_rfl)) (fun _ _ _ h => h) (Or.inl ⟨by rfl, ?_⟩) ?_ ?_
         rotate_left
         ·intro w'
          go_simp
          with_reducible rfl
         rotate_left
         ·simp only [Act.put, sA, sB, sC, i64_w, i32_w]
          rfl
         refine pure_ (i := 8) (N := some 43) (v := ?_) (a' := ?_) (bs 25 79359) rfl rfl (any_of HT_.out (by kernel_rfl)) (fun _ _ _ h => h) (Or.inl ⟨by rfl, ?_⟩) ?_ ?_
         rotate_left
         ·intro w'
          go_simp
          with_reducible rfl
         rotate_left
         ·simp only [Act.put, sA, sB, sC, i64_w, i32_w]
          rfl
         refine take_ (i := 9) (N := some 44) (v := ?_) (a' := ?_) (bs 25 79871) rfl rfl (take_ofW HT_.out HW_.out (by kernel_rfl)) (fun _ _ _ h => h) (Or.inl ⟨by rfl, ?_⟩) hHeld ?_ ?_
         rotate_left
         ·rintro w' ⟨s0, s1, s2, s3, s4, s5, s6, s7⟩
          go_simp
          with_reducible rfl
         rotate_left
         ·simp only [Act.put, sA, sB, sC, i64_w, i32_w]
          rfl
         refine take_ (i := 11) (N := some 46) (v := ?_) (a' := ?_) (bs 25 81919) rfl rfl (take_ofW HT_.out HW_.out (by kernel_rfl)) (fun _ _ _ h => h) (Or.inl ⟨by rfl, ?_⟩) hHeld ?_ ?_
         rotate_left
         ·rintro w' ⟨s0, s1, s2, s3, s4, s5, s6, s7⟩
          go_simp
          with_reducible rfl
         rotate_left
         ·simp only [Act.put, sA, sB, sC, i64_w, i32_w]
          rfl
         refine take_ (i := 14) (N := some 49) (v := ?_) (a' := ?_) (bs 25 98303) rfl rfl (take_ofW HT_.out HW_.out (by kernel_rfl)) (fun _ _ _ h => h) (Or.inl ⟨by rfl, ?_⟩) hHeld ?_ ?_
         rotate_left
         ·rintro w' ⟨s0, s1, s2, s3, s4, s5, s6, s7⟩
          go_simp
          with_reducible rfl
         rotate_left
         ·simp only [Act.put, sA, sB, sC, i64_w, i32_w]
          rfl
         refine pure_ (i := 15) (N := some 50) (v := ?_) (a' := ?_) (bs 25 131071) rfl rfl (any_of HT_.out (by kernel_rfl)) (fun _ _ _ h => h) (Or.inl ⟨by rfl, ?_⟩) ?_ ?_
         rotate_left
         ·intro w'
          go_simp
          with_reducible rfl
         rotate_left
         ·simp only [Act.put, sA, sB, sC, i64_w, i32_w]
          rfl
         refine pure_ (i := 17) (N := some 52) (v := ?_) (a' := ?_) (bs 25 262143) rfl rfl (any_of HT_.out (by kernel_rfl)) (fun _ _ _ h => h) (Or.inl ⟨by rfl, ?_⟩) ?_ ?_
         rotate_left
         ·intro w'
          go_simp
          with_reducible rfl
         rotate_left
         ·simp only [Act.put, sA, sB, sC, i64_w, i32_w]
          rfl
         refine pure_ (i := 18) (N := some 53) (v := ?_) (a' := ?_) (bs 25 524287) rfl rfl (any_of HT_.out (by kernel_rfl)) (fun _ _ _ h => h) (Or.inl ⟨by rfl, ?_⟩) ?_ ?_
         rotate_left
         ·intro w'
          go_simp
          with_reducible rfl
         rotate_left
         ·simp only [Act.put, sA, sB, sC, i64_w, i32_w]
          rfl
         refine pure_ (i := 19) (N := some 54) (v := ?_) (a' := ?_) (bs 25 1048575) rfl rfl (any_of HT_.out (by kernel_rfl)) (fun _ _ _ h => h) (Or.inl ⟨by rfl, ?_⟩) ?_ ?_
         rotate_left
         ·intro w'
          go_simp
          with_reducible rfl
         rotate_left
         ·simp only [Act.put, sA, sB, sC, i64_w, i32_w]
          rfl
         refine take_ (i := 20) (N := some 55) (v := ?_) (a' := ?_) (bs 25 2097151) rfl rfl (take_ofW HT_.out HW_.out (by kernel_rfl)) (fun _ _ _ h => h) (Or.inl ⟨by rfl, ?_⟩) hHeld ?_ ?_
         rotate_left
         ·rintro w' ⟨s0, s1, s2, s3, s4, s5, s6, s7⟩
          go_simp
          with_reducible rfl
         rotate_left
         ·simp only [Act.put, sA, sB, sC, i64_w, i32_w]
          rfl
         refine join_ (σ := Nat × Nat) 2 (bs 25 8388607) (fun s_ => [(11, .pointer (some ⟨s_.1, 0, none⟩)), (12, .pointer (some ⟨s_.2, 0, none⟩))]) (fun s_ w' => (w'.cell? ⟨gb117, 0, none⟩ = some (.int .i64 a0_0) ∧ w'.cell? ⟨gb117, 1, none⟩ = some (.int .i64 a0_1) ∧ w'.cell? ⟨gb117, 2, none⟩ = some (.int .i64 a0_2) ∧ w'.cell? ⟨gb117, 3, none⟩ = some (.slice (some ad125) l0_3.length c0_3) ∧ w'.cell? (ad125.add (((ji6)).toNat * 2)) = some (.int .i64 ((rd_T28 l0_3 (ji6)).f0)) ∧ w'.cell? ⟨(ad125.add (((ji6)).toNat * 2)).block, (ad125.add (((ji6)).toNat * 2)).off + 1, none⟩ = some (.int .i64 ((rd_T28 l0_3 (ji6)).f1)) ∧ w'.cell? (ad125.add (((ji9)).toNat * 2)) = some (.int .i64 ((rd_T28 l0_3 (ji9)).f0)) ∧ w'.cell? ⟨(ad125.add (((ji9)).toNat * 2)).block, (ad125.add (((ji9)).toNat * 2)).off + 1, none⟩ = some (.int .i64 ((rd_T28 l0_3 (ji9)).f1))) ∧ (w'.heap[gb117]? = some (.cells #[.int .i64 a0_0, .int .i64 a0_1, .int .i64 a0_2, .slice (some ad125) l0_3.length c0_3] 24 (0, 0))) ∧ (w'.heap[gb118]? = some (.cells #[.int .i64 0, .int .i64 0] 28 (0, 0))) ∧ (w'.heap[gb121]? = some (.cells #[.int .i64 t120] 3 (0, 0))) ∧ (w'.heap[gb124]? = some (.cells #[.int .i64 t123] 3 (0, 0))) ∧ (w'.heap[s_.1]? = some (.cells #[.int .i64 0, .int .i64 0] 28 (0, 0))) ∧ (w'.heap[s_.2]? = some (.cells #[.int .i64 0, .int .i64 0] 28 (0, 0))) ∧ (w.heap.size ≤ s_.1) ∧ (w.heap.size ≤ s_.1) ∧ (gb117 ≠ s_.1) ∧ (s_.1 ≠ gb117) ∧ (gb118 ≠ s_.1) ∧ (s_.1 ≠ gb118) ∧ (gb121 ≠ s_.1) ∧ (s_.1 ≠ gb121) ∧ (gb124 ≠ s_.1) ∧ (s_.1 ≠ gb124) ∧ (s_.2 ≠ s_.1) ∧ (s_.1 ≠ s_.2) ∧ (w.heap.size ≤ s_.2) ∧ (w.heap.size ≤ s_.2) ∧ (gb117 ≠ s_.2) ∧ (s_.2 ≠ gb117) ∧ (gb118 ≠ s_.2) ∧ (s_.2 ≠ gb118) ∧ (gb121 ≠ s_.2) ∧ (s_.2 ≠ gb121) ∧ (gb124 ≠ s_.2) ∧ (s_.2 ≠ gb124) ∧ (Below w.heap.size w w')) ?_ ?_
         rotate_left
         ·intro hCont
          refine two_ (i := 21) (j := 22) (Ni := some 11) (Nj := some 12) (bs 25 4194303) (bs 25 6291455) rfl rfl rfl rfl (two_of HT_.out (by kernel_rfl)) (by decide) (by decide) (fun K hK => ?_) (fun K hK => ?_)
          ·skip
           refine box_step ?hg (N := 11) ?hd (cs := #[.int .i64 0, .int .i64 0]) (t := 28) ?hr ?_; (case hd => rfl); (case hg => rfl); (case hr => first | (go_simp; done) | (go_simp; rfl))
           intro gb127 hg w38 hbox hb
           have GW127 := zg HB hg
           have GE127 := zg HB hg
           have NB117_127 := zn BK117 hg
           have NB127_117 := zn' BK117 hg
           have NB118_127 := zn BK118 hg
           have NB127_118 := zn' BK118 hg
           have NB121_127 := zn BK121 hg
           have NB127_121 := zn' BK121 hg
           have NB124_127 := zn BK124 hg
           have NB127_124 := zn' BK124 hg
           have n0_ := Aside0.mk (hbox)
           replace BK117 := zk BK117 hb
           replace BK118 := zk BK118 hb
           replace BK121 := zk BK121 hb
           replace BK124 := zk BK124 hb
           replace HB := zb HB hb
           have BK127 := n0_
           clear n0_
           clear hb hbox hg
           refine hK.out _ _ ⟨(blk_cell BK117.out 0).trans rfl, (blk_cell BK117.out 1).trans rfl, (blk_cell BK117.out 2).trans rfl, (blk_cell BK117.out 3).trans rfl, ((HB.out.cell (World.block_lt_of_cell? w _ hw125_0)).trans hw125_0), ((HB.out.cell (World.block_lt_of_cell? w _ hw125_1)).trans hw125_1), ((HB.out.cell (World.block_lt_of_cell? w _ hw126_0)).trans hw126_0), ((HB.out.cell (World.block_lt_of_cell? w _ hw126_1)).trans hw126_1)⟩ (fun hHeld => ?_)
           clear hK K
           refine norm_ (a' := ?_) ?_ ?_
           rotate_left
           ·show Act.put _ (some 11) _ = _
            simp only [Act.put, sA, sB, sC, i64_w, i32_w]
            rfl
           refine one_ (i := 22) (N := some 12) (bs 25 8388607) rfl rfl (one_of HT_.out (by kernel_rfl)) (by decide) (fun K hK => ?_)
           refine box_step ?hg (N := 12) ?hd (cs := #[.int .i64 0, .int .i64 0]) (t := 28) ?hr ?_; (case hd => rfl); (case hg => rfl); (case hr => first | (go_simp; done) | (go_simp; rfl))
           intro gb128 hg w39 hbox hb
           have GW128 := zg HB hg
           have GE128 := zg HB hg
           have NB117_128 := zn BK117 hg
           have NB128_117 := zn' BK117 hg
           have NB118_128 := zn BK118 hg
           have NB128_118 := zn' BK118 hg
           have NB121_128 := zn BK121 hg
           have NB128_121 := zn' BK121 hg
           have NB124_128 := zn BK124 hg
           have NB128_124 := zn' BK124 hg
           have NB127_128 := zn BK127 hg
           have NB128_127 := zn' BK127 hg
           have n0_ := Aside0.mk (hbox)
           replace BK117 := zk BK117 hb
           replace BK118 := zk BK118 hb
           replace BK121 := zk BK121 hb
           replace BK124 := zk BK124 hb
           replace BK127 := zk BK127 hb
           replace HB := zb HB hb
           have BK128 := n0_
           clear n0_
           clear hb hbox hg
           refine hK.out _ _ ⟨(blk_cell BK117.out 0).trans rfl, (blk_cell BK117.out 1).trans rfl, (blk_cell BK117.out 2).trans rfl, (blk_cell BK117.out 3).trans rfl, ((HB.out.cell (World.block_lt_of_cell? w _ hw125_0)).trans hw125_0), ((HB.out.cell (World.block_lt_of_cell? w _ hw125_1)).trans hw125_1), ((HB.out.cell (World.block_lt_of_cell? w _ hw126_0)).trans hw126_0), ((HB.out.cell (World.block_lt_of_cell? w _ hw126_1)).trans hw126_1)⟩ (fun hHeld => ?_)
           clear hK K
           refine norm_ (a' := ?_) ?_ ?_
           rotate_left
           ·show Act.put _ (some 12) _ = _
            simp only [Act.put, sA, sB, sC, i64_w, i32_w]
            rfl
           exact norm_ (by simp only [putAll, Act.put, sA, sB, sC]) (hCont (gb127, gb128) _ ⟨hHeld, (by exact zk0 BK117), (by exact zk0 BK118), (by exact zk0 BK121), (by exact zk0 BK124), (by exact zk0 BK127), (by exact zk0 BK128), GW127.out, GE127.out, NB117_127.out, NB127_117.out, NB118_127.out, NB127_118.out, NB121_127.out, NB127_121.out, NB124_127.out, NB127_124.out, NB128_127.out, NB127_128.out, GW128.out, GE128.out, NB117_128.out, NB128_117.out, NB118_128.out, NB128_118.out, NB121_128.out, NB128_121.out, NB124_128.out, NB128_124.out, (by exact zb0 HB)⟩)
          ·skip
           refine box_step ?hg (N := 12) ?hd (cs := #[.int .i64 0, .int .i64 0]) (t := 28) ?hr ?_; (case hd => rfl); (case hg => rfl); (case hr => first | (go_simp; done) | (go_simp; rfl))
           intro gb128 hg w38 hbox hb
           have GW128 := zg HB hg
           have GE128 := zg HB hg
           have NB117_128 := zn BK117 hg
           have NB128_117 := zn' BK117 hg
           have NB118_128 := zn BK118 hg
           have NB128_118 := zn' BK118 hg
           have NB121_128 := zn BK121 hg
           have NB128_121 := zn' BK121 hg
           have NB124_128 := zn BK124 hg
           have NB128_124 := zn' BK124 hg
           have n0_ := Aside0.mk (hbox)
           replace BK117 := zk BK117 hb
           replace BK118 := zk BK118 hb
           replace BK121 := zk BK121 hb
           replace BK124 := zk BK124 hb
           replace HB := zb HB hb
           have BK128 := n0_
           clear n0_
           clear hb hbox hg
           refine hK.out _ _ ⟨(blk_cell BK117.out 0).trans rfl, (blk_cell BK117.out 1).trans rfl, (blk_cell BK117.out 2).trans rfl, (blk_cell BK117.out 3).trans rfl, ((HB.out.cell (World.block_lt_of_cell? w _ hw125_0)).trans hw125_0), ((HB.out.cell (World.block_lt_of_cell? w _ hw125_1)).trans hw125_1), ((HB.out.cell (World.block_lt_of_cell? w _ hw126_0)).trans hw126_0), ((HB.out.cell (World.block_lt_of_cell? w _ hw126_1)).trans hw126_1)⟩ (fun hHeld => ?_)
           clear hK K
           refine norm_ (a' := ?_) ?_ ?_
           rotate_left
           ·show Act.put _ (some 12) _ = _
            simp only [Act.put, sA, sB, sC, i64_w, i32_w]
            rfl
           refine one_ (i := 21) (N := some 11) (bs 25 8388607) rfl rfl (one_of HT_.out (by kernel_rfl)) (by decide) (fun K hK => ?_)
           refine box_step ?hg (N := 11) ?hd (cs := #[.int .i64 0, .int .i64 0]) (t := 28) ?hr ?_; (case hd => rfl); (case hg => rfl); (case hr => first | (go_simp; done) | (go_simp; rfl))
           intro gb127 hg w39 hbox hb
           have GW127 := zg HB hg
           have GE127 := zg HB hg
           have NB117_127 := zn BK117 hg
           have NB127_117 := zn' BK117 hg
           have NB118_127 := zn BK118 hg
           have NB127_118 := zn' BK118 hg
           have NB121_127 := zn BK121 hg
           have NB127_121 := zn' BK121 hg
           have NB124_127 := zn BK124 hg
           have NB127_124 := zn' BK124 hg
           have NB128_127 := zn BK128 hg
           have NB127_128 := zn' BK128 hg
           have n0_ := Aside0.mk (hbox)
           replace BK117 := zk BK117 hb
           replace BK118 := zk BK118 hb
           replace BK121 := zk BK121 hb
           replace BK124 := zk BK124 hb
           replace BK128 := zk BK128 hb
           replace HB := zb HB hb
           have BK127 := n0_
           clear n0_
           clear hb hbox hg
           refine hK.out _ _ ⟨(blk_cell BK117.out 0).trans rfl, (blk_cell BK117.out 1).trans rfl, (blk_cell BK117.out 2).trans rfl, (blk_cell BK117.out 3).trans rfl, ((HB.out.cell (World.block_lt_of_cell? w _ hw125_0)).trans hw125_0), ((HB.out.cell (World.block_lt_of_cell? w _ hw125_1)).trans hw125_1), ((HB.out.cell (World.block_lt_of_cell? w _ hw126_0)).trans hw126_0), ((HB.out.cell (World.block_lt_of_cell? w _ hw126_1)).trans hw126_1)⟩ (fun hHeld => ?_)
           clear hK K
           refine norm_ (a' := ?_) ?_ ?_
           rotate_left
           ·show Act.put _ (some 11) _ = _
            simp only [Act.put, sA, sB, sC, i64_w, i32_w]
            rfl
           exact norm_ (by simp only [putAll, Act.put, sA, sB, sC]) (hCont (gb127, gb128) _ ⟨hHeld, (by exact zk0 BK117), (by exact zk0 BK118), (by exact zk0 BK121), (by exact zk0 BK124), (by exact zk0 BK127), (by exact zk0 BK128), GW127.out, GE127.out, NB117_127.out, NB127_117.out, NB118_127.out, NB127_118.out, NB121_127.out, NB127_121.out, NB124_127.out, NB127_124.out, NB128_127.out, NB127_128.out, GW128.out, GE128.out, NB117_128.out, NB128_117.out, NB118_128.out, NB128_118.out, NB121_128.out, NB128_121.out, NB124_128.out, NB128_124.out, (by exact zb0 HB)⟩)
         rintro ⟨gb127, gb128⟩ w40 ⟨hS_, h0_, h1_, h2_, h3_, h4_, h5_, h6_, h7_, h8_, h9_, h10_, h11_, h12_, h13_, h14_, h15_, h16_, h17_, h18_, h19_, h20_, h21_, h22_, h23_, h24_, h25_, h26_, h27_, h28_⟩
         have n0_ : Aside0 (w40.heap[gb117]? = some (.cells #[.int .i64 a0_0, .int .i64 a0_1, .int .i64 a0_2, .slice (some ad125) l0_3.length c0_3] 24 (0, 0))) := ⟨h0_⟩
         have n1_ : Aside0 (w40.heap[gb118]? = some (.cells #[.int .i64 0, .int .i64 0] 28 (0, 0))) := ⟨h1_⟩
         have n2_ : Aside0 (w40.heap[gb121]? = some (.cells #[.int .i64 t120] 3 (0, 0))) := ⟨h2_⟩
         have n3_ : Aside0 (w40.heap[gb124]? = some (.cells #[.int .i64 t123] 3 (0, 0))) := ⟨h3_⟩
         have n4_ : Aside0 (w40.heap[gb127]? = some (.cells #[.int .i64 0, .int .i64 0] 28 (0, 0))) := ⟨h4_⟩
         have n5_ : Aside0 (w40.heap[gb128]? = some (.cells #[.int .i64 0, .int .i64 0] 28 (0, 0))) := ⟨h5_⟩
         have n6_ : Aside0 (w.heap.size ≤ gb127) := ⟨h6_⟩
         have n7_ : Aside0 (w.heap.size ≤ gb127) := ⟨h7_⟩
         have n8_ : Aside0 (gb117 ≠ gb127) := ⟨h8_⟩
         have n9_ : Aside0 (gb127 ≠ gb117) := ⟨h9_⟩
         have n10_ : Aside0 (gb118 ≠ gb127) := ⟨h10_⟩
         have n11_ : Aside0 (gb127 ≠ gb118) := ⟨h11_⟩
         have n12_ : Aside0 (gb121 ≠ gb127) := ⟨h12_⟩
         have n13_ : Aside0 (gb127 ≠ gb121) := ⟨h13_⟩
         have n14_ : Aside0 (gb124 ≠ gb127) := ⟨h14_⟩
         have n15_ : Aside0 (gb127 ≠ gb124) := ⟨h15_⟩
         have n16_ : Aside0 (gb128 ≠ gb127) := ⟨h16_⟩
         have n17_ : Aside0 (gb127 ≠ gb128) := ⟨h17_⟩
         have n18_ : Aside0 (w.heap.size ≤ gb128) := ⟨h18_⟩
         have n19_ : Aside0 (w.heap.size ≤ gb128) := ⟨h19_⟩
         have n20_ : Aside0 (gb117 ≠ gb128) := ⟨h20_⟩
         have n21_ : Aside0 (gb128 ≠ gb117) := ⟨h21_⟩
         have n22_ : Aside0 (gb118 ≠ gb128) := ⟨h22_⟩
         have n23_ : Aside0 (gb128 ≠ gb118) := ⟨h23_⟩
         have n24_ : Aside0 (gb121 ≠ gb128) := ⟨h24_⟩
         have n25_ : Aside0 (gb128 ≠ gb121) := ⟨h25_⟩
         have n26_ : Aside0 (gb124 ≠ gb128) := ⟨h26_⟩
         have n27_ : Aside0 (gb128 ≠ gb124) := ⟨h27_⟩
         have n28_ : Aside0 (Below w.heap.size w w40) := ⟨h28_⟩
         clear BK117
         clear BK118
         clear BK121
         clear BK124
         clear HB
         clear h0_ h1_ h2_ h3_ h4_ h5_ h6_ h7_ h8_ h9_ h10_ h11_ h12_ h13_ h14_ h15_ h16_ h17_ h18_ h19_ h20_ h21_ h22_ h23_ h24_ h25_ h26_ h27_ h28_
         have BK117 := n0_
         have BK118 := n1_
         have BK121 := n2_
         have BK124 := n3_
         have BK127 := n4_
         have BK128 := n5_
         have GW127 := n6_
         have GE127 := n7_
         have NB117_127 := n8_
         have NB127_117 := n9_
         have NB118_127 := n10_
         have NB127_118 := n11_
         have NB121_127 := n12_
         have NB127_121 := n13_
         have NB124_127 := n14_
         have NB127_124 := n15_
         have NB128_127 := n16_
         have NB127_128 := n17_
         have GW128 := n18_
         have GE128 := n19_
         have NB117_128 := n20_
         have NB128_117 := n21_
         have NB118_128 := n22_
         have NB128_118 := n23_
         have NB121_128 := n24_
         have NB128_121 := n25_
         have NB124_128 := n26_
         have NB128_124 := n27_
         have HB := n28_
         clear n0_ n1_ n2_ n3_ n4_ n5_ n6_ n7_ n8_ n9_ n10_ n11_ n12_ n13_ n14_ n15_ n16_ n17_ n18_ n19_ n20_ n21_ n22_ n23_ n24_ n25_ n26_ n27_ n28_
         have hHeld : w40.cell? ⟨gb117, 0, none⟩ = some (.int .i64 a0_0) ∧ w40.cell? ⟨gb117, 1, none⟩ = some (.int .i64 a0_1) ∧ w40.cell? ⟨gb117, 2, none⟩ = some (.int .i64 a0_2) ∧ w40.cell? ⟨gb117, 3, none⟩ = some (.slice (some ad125) l0_3.length c0_3) ∧ w40.cell? (ad125.add (((ji6)).toNat * 2)) = some (.int .i64 ((rd_T28 l0_3 (ji6)).f0)) ∧ w40.cell? ⟨(ad125.add (((ji6)).toNat * 2)).block, (ad125.add (((ji6)).toNat * 2)).off + 1, none⟩ = some (.int .i64 ((rd_T28 l0_3 (ji6)).f1)) ∧ w40.cell? (ad125.add (((ji9)).toNat * 2)) = some (.int .i64 ((rd_T28 l0_3 (ji9)).f0)) ∧ w40.cell? ⟨(ad125.add (((ji9)).toNat * 2)).block, (ad125.add (((ji9)).toNat * 2)).off + 1, none⟩ = some (.int .i64 ((rd_T28 l0_3 (ji9)).f1)) := hS_
         refine norm_ (a' := ?_) ?_ ?_
         rotate_left
         ·simp only [putAll, Act.put, sA, sB, sC]
          rfl
         refine one_ (i := 23) (N := none) (bs 25 16777215) rfl rfl (one_of HT_.out (by kernel_rfl)) (by decide) (fun K hK => ?_)
         have hs41 : w40.cell? ⟨gb127, 0, none⟩ = some (.int .i64 0) := (blk_cell BK127.out 0).trans rfl
         have hfs41 := blk_frozen BK127.out 0
         have hns41_0 := NB117_127.out
         have hns41_1 := NB118_127.out
         have hns41_2 := NB121_127.out
         have hns41_3 := NB124_127.out
         have hns41_5 := NB128_127.out
         have hms41_0 := NB127_117.out
         have hms41_1 := NB127_118.out
         have hms41_2 := NB127_121.out
         have hms41_3 := NB127_124.out
         have hms41_5 := NB127_128.out
         have hs42 : w40.cell? ⟨gb127, 1, none⟩ = some (.int .i64 0) := (blk_cell BK127.out 1).trans rfl
         have hfs42 := blk_frozen BK127.out 1
         have hns42_0 := NB117_127.out
         have hns42_1 := NB118_127.out
         have hns42_2 := NB121_127.out
         have hns42_3 := NB124_127.out
         have hns42_5 := NB128_127.out
         have hms42_0 := NB127_117.out
         have hms42_1 := NB127_118.out
         have hms42_2 := NB127_121.out
         have hms42_3 := NB127_124.out
         have hms42_5 := NB127_128.out
         refine skip_ (w1 := ?_) (by rfl) rfl ?_ ?_
         rotate_left
         ·go_simp
          rfl
         refine hK.out _ _ ⟨((cell_far (p := ⟨gb127, _, none⟩) NB117_127.out _).trans (((cell_far (p := ⟨gb127, _, none⟩) NB117_127.out _).trans (hHeld.1)))), ((cell_far (p := ⟨gb127, _, none⟩) NB117_127.out _).trans (((cell_far (p := ⟨gb127, _, none⟩) NB117_127.out _).trans (hHeld.2.1)))), ((cell_far (p := ⟨gb127, _, none⟩) NB117_127.out _).trans (((cell_far (p := ⟨gb127, _, none⟩) NB117_127.out _).trans (hHeld.2.2.1)))), ((cell_far (p := ⟨gb127, _, none⟩) NB117_127.out _).trans (((cell_far (p := ⟨gb127, _, none⟩) NB117_127.out _).trans (hHeld.2.2.2.1)))), ((cell_far (p := ⟨gb127, _, none⟩) (by first | exact Nat.ne_of_lt (Nat.lt_of_lt_of_le (by have := World.block_lt_of_cell? _ _ hw125_0; first | rwa [add_block] at this | exact this) GW127.out) | (rw [add_block]; exact Nat.ne_of_lt (Nat.lt_of_lt_of_le (by have := World.block_lt_of_cell? _ _ hw125_0; first | rwa [add_block] at this | exact this) GW127.out)) | (show (Addr.add _ _).block ≠ _; rw [add_block]; exact Nat.ne_of_lt (Nat.lt_of_lt_of_le (by have := World.block_lt_of_cell? _ _ hw125_0; first | rwa [add_block] at this | exact this) GW127.out)) | (dsimp only; exact Nat.ne_of_lt (Nat.lt_of_lt_of_le (by have := World.block_lt_of_cell? _ _ hw125_0; first | rwa [add_block] at this | exact this) GW127.out))) _).trans (((cell_far (p := ⟨gb127, _, none⟩) (by first | exact Nat.ne_of_lt (Nat.lt_of_lt_of_le (by have := World.block_lt_of_cell? _ _ hw125_0; first | rwa [add_block] at this | exact this) GW127.out) | (rw [add_block]; exact Nat.ne_of_lt (Nat.lt_of_lt_of_le (by have := World.block_lt_of_cell? _ _ hw125_0; first | rwa [add_block] at this | exact this) GW127.out)) | (show (Addr.add _ _).block ≠ _; rw [add_block]; exact Nat.ne_of_lt (Nat.lt_of_lt_of_le (by have := World.block_lt_of_cell? _ _ hw125_0; first | rwa [add_block] at this | exact this) GW127.out)) | (dsimp only; exact Nat.ne_of_lt (Nat.lt_of_lt_of_le (by have := World.block_lt_of_cell? _ _ hw125_0; first | rwa [add_block] at this | exact this) GW127.out))) _).trans (hHeld.2.2.2.2.1)))), ((cell_far (p := ⟨gb127, _, none⟩) (by first | exact Nat.ne_of_lt (Nat.lt_of_lt_of_le (by have := World.block_lt_of_cell? _ _ hw125_1; first | rwa [add_block] at this | exact this) GW127.out) | (rw [add_block]; exact Nat.ne_of_lt (Nat.lt_of_lt_of_le (by have := World.block_lt_of_cell? _ _ hw125_1; first | rwa [add_block] at this | exact this) GW127.out)) | (show (Addr.add _ _).block ≠ _; rw [add_block]; exact Nat.ne_of_lt (Nat.lt_of_lt_of_le (by have := World.block_lt_of_cell? _ _ hw125_1; first | rwa [add_block] at this | exact this) GW127.out)) | (dsimp only; exact Nat.ne_of_lt (Nat.lt_of_lt_of_le (by have := World.block_lt_of_cell? _ _ hw125_1; first | rwa [add_block] at this | exact this) GW127.out))) _).trans (((cell_far (p := ⟨gb127, _, none⟩) (by first | exact Nat.ne_of_lt (Nat.lt_of_lt_of_le (by have := World.block_lt_of_cell? _ _ hw125_1; first | rwa [add_block] at this | exact this) GW127.out) | (rw [add_block]; exact Nat.ne_of_lt (Nat.lt_of_lt_of_le (by have := World.block_lt_of_cell? _ _ hw125_1; first | rwa [add_block] at this | exact this) GW127.out)) | (show (Addr.add _ _).block ≠ _; rw [add_block]; exact Nat.ne_of_lt (Nat.lt_of_lt_of_le (by have := World.block_lt_of_cell? _ _ hw125_1; first | rwa [add_block] at this | exact this) GW127.out)) | (dsimp only; exact Nat.ne_of_lt (Nat.lt_of_lt_of_le (by have := World.block_lt_of_cell? _ _ hw125_1; first | rwa [add_block] at this | exact this) GW127.out))) _).trans (hHeld.2.2.2.2.2.1)))), ((cell_far (p := ⟨gb127, _, none⟩) (by first | exact Nat.ne_of_lt (Nat.lt_of_lt_of_le (by have := World.block_lt_of_cell? _ _ hw126_0; first | rwa [add_block] at this | exact this) GW127.out) | (rw [add_block]; exact Nat.ne_of_lt (Nat.lt_of_lt_of_le (by have := World.block_lt_of_cell? _ _ hw126_0; first | rwa [add_block] at this | exact this) GW127.out)) | (show (Addr.add _ _).block ≠ _; rw [add_block]; exact Nat.ne_of_lt (Nat.lt_of_lt_of_le (by have := World.block_lt_of_cell? _ _ hw126_0; first | rwa [add_block] at this | exact this) GW127.out)) | (dsimp only; exact Nat.ne_of_lt (Nat.lt_of_lt_of_le (by have := World.block_lt_of_cell? _ _ hw126_0; first | rwa [add_block] at this | exact this) GW127.out))) _).trans (((cell_far (p := ⟨gb127, _, none⟩) (by first | exact Nat.ne_of_lt (Nat.lt_of_lt_of_le (by have := World.block_lt_of_cell? _ _ hw126_0; first | rwa [add_block] at this | exact this) GW127.out) | (rw [add_block]; exact Nat.ne_of_lt (Nat.lt_of_lt_of_le (by have := World.block_lt_of_cell? _ _ hw126_0; first | rwa [add_block] at this | exact this) GW127.out)) | (show (Addr.add _ _).block ≠ _; rw [add_block]; exact Nat.ne_of_lt (Nat.lt_of_lt_of_le (by have := World.block_lt_of_cell? _ _ hw126_0; first | rwa [add_block] at this | exact this) GW127.out)) | (dsimp only; exact Nat.ne_of_lt (Nat.lt_of_lt_of_le (by have := World.block_lt_of_cell? _ _ hw126_0; first | rwa [add_block] at this | exact this) GW127.out))) _).trans (hHeld.2.2.2.2.2.2.1)))), ((cell_far (p := ⟨gb127, _, none⟩) (by first | exact Nat.ne_of_lt (Nat.lt_of_lt_of_le (by have := World.block_lt_of_cell? _ _ hw126_1; first | rwa [add_block] at this | exact this) GW127.out) | (rw [add_block]; exact Nat.ne_of_lt (Nat.lt_of_lt_of_le (by have := World.block_lt_of_cell? _ _ hw126_1; first | rwa [add_block] at this | exact this) GW127.out)) | (show (Addr.add _ _).block ≠ _; rw [add_block]; exact Nat.ne_of_lt (Nat.lt_of_lt_of_le (by have := World.block_lt_of_cell? _ _ hw126_1; first | rwa [add_block] at this | exact this) GW127.out)) | (dsimp only; exact Nat.ne_of_lt (Nat.lt_of_lt_of_le (by have := World.block_lt_of_cell? _ _ hw126_1; first | rwa [add_block] at this | exact this) GW127.out))) _).trans (((cell_far (p := ⟨gb127, _, none⟩) (by first | exact Nat.ne_of_lt (Nat.lt_of_lt_of_le (by have := World.block_lt_of_cell? _ _ hw126_1; first | rwa [add_block] at this | exact this) GW127.out) | (rw [add_block]; exact Nat.ne_of_lt (Nat.lt_of_lt_of_le (by have := World.block_lt_of_cell? _ _ hw126_1; first | rwa [add_block] at this | exact this) GW127.out)) | (show (Addr.add _ _).block ≠ _; rw [add_block]; exact Nat.ne_of_lt (Nat.lt_of_lt_of_le (by have := World.block_lt_of_cell? _ _ hw126_1; first | rwa [add_block] at this | exact this) GW127.out)) | (dsimp only; exact Nat.ne_of_lt (Nat.lt_of_lt_of_le (by have := World.block_lt_of_cell? _ _ hw126_1; first | rwa [add_block] at this | exact this) GW127.out))) _).trans (hHeld.2.2.2.2.2.2.2))))⟩ (fun hHeld => ?_)
         clear hK K
         refine one_ (i := 24) (N := none) (bs 25 33554431) rfl rfl (one_of HT_.out (by kernel_rfl)) (by decide) (fun K hK => ?_)
         have hs43 : w40.cell? ⟨gb128, 0, none⟩ = some (.int .i64 0) := (blk_cell BK128.out 0).trans rfl
         have hfs43 := blk_frozen BK128.out 0
         have hns43_0 := NB117_128.out
         have hns43_1 := NB118_128.out
         have hns43_2 := NB121_128.out
         have hns43_3 := NB124_128.out
         have hns43_4 := NB127_128.out
         have hms43_0 := NB128_117.out
         have hms43_1 := NB128_118.out
         have hms43_2 := NB128_121.out
         have hms43_3 := NB128_124.out
         have hms43_4 := NB128_127.out
         have hs44 : w40.cell? ⟨gb128, 1, none⟩ = some (.int .i64 0) := (blk_cell BK128.out 1).trans rfl
         have hfs44 := blk_frozen BK128.out 1
         have hns44_0 := NB117_128.out
         have hns44_1 := NB118_128.out
         have hns44_2 := NB121_128.out
         have hns44_3 := NB124_128.out
         have hns44_4 := NB127_128.out
         have hms44_0 := NB128_117.out
         have hms44_1 := NB128_118.out
         have hms44_2 := NB128_121.out
         have hms44_3 := NB128_124.out
         have hms44_4 := NB128_127.out
         refine skip_ (w1 := ?_) (by rfl) rfl ?_ ?_
         rotate_left
         ·go_simp
          rfl
         refine hK.out _ _ ⟨((cell_far (p := ⟨gb128, _, none⟩) NB117_128.out _).trans (((cell_far (p := ⟨gb128, _, none⟩) NB117_128.out _).trans (hHeld.1)))), ((cell_far (p := ⟨gb128, _, none⟩) NB117_128.out _).trans (((cell_far (p := ⟨gb128, _, none⟩) NB117_128.out _).trans (hHeld.2.1)))), ((cell_far (p := ⟨gb128, _, none⟩) NB117_128.out _).trans (((cell_far (p := ⟨gb128, _, none⟩) NB117_128.out _).trans (hHeld.2.2.1)))), ((cell_far (p := ⟨gb128, _, none⟩) NB117_128.out _).trans (((cell_far (p := ⟨gb128, _, none⟩) NB117_128.out _).trans (hHeld.2.2.2.1)))), ((cell_far (p := ⟨gb128, _, none⟩) (by first | exact Nat.ne_of_lt (Nat.lt_of_lt_of_le (by have := World.block_lt_of_cell? _ _ hw125_0; first | rwa [add_block] at this | exact this) GW128.out) | (rw [add_block]; exact Nat.ne_of_lt (Nat.lt_of_lt_of_le (by have := World.block_lt_of_cell? _ _ hw125_0; first | rwa [add_block] at this | exact this) GW128.out)) | (show (Addr.add _ _).block ≠ _; rw [add_block]; exact Nat.ne_of_lt (Nat.lt_of_lt_of_le (by have := World.block_lt_of_cell? _ _ hw125_0; first | rwa [add_block] at this | exact this) GW128.out)) | (dsimp only; exact Nat.ne_of_lt (Nat.lt_of_lt_of_le (by have := World.block_lt_of_cell? _ _ hw125_0; first | rwa [add_block] at this | exact this) GW128.out))) _).trans (((cell_far (p := ⟨gb128, _, none⟩) (by first | exact Nat.ne_of_lt (Nat.lt_of_lt_of_le (by have := World.block_lt_of_cell? _ _ hw125_0; first | rwa [add_block] at this | exact this) GW128.out) | (rw [add_block]; exact Nat.ne_of_lt (Nat.lt_of_lt_of_le (by have := World.block_lt_of_cell? _ _ hw125_0; first | rwa [add_block] at this | exact this) GW128.out)) | (show (Addr.add _ _).block ≠ _; rw [add_block]; exact Nat.ne_of_lt (Nat.lt_of_lt_of_le (by have := World.block_lt_of_cell? _ _ hw125_0; first | rwa [add_block] at this | exact this) GW128.out)) | (dsimp only; exact Nat.ne_of_lt (Nat.lt_of_lt_of_le (by have := World.block_lt_of_cell? _ _ hw125_0; first | rwa [add_block] at this | exact this) GW128.out))) _).trans (hHeld.2.2.2.2.1)))), ((cell_far (p := ⟨gb128, _, none⟩) (by first | exact Nat.ne_of_lt (Nat.lt_of_lt_of_le (by have := World.block_lt_of_cell? _ _ hw125_1; first | rwa [add_block] at this | exact this) GW128.out) | (rw [add_block]; exact Nat.ne_of_lt (Nat.lt_of_lt_of_le (by have := World.block_lt_of_cell? _ _ hw125_1; first | rwa [add_block] at this | exact this) GW128.out)) | (show (Addr.add _ _).block ≠ _; rw [add_block]; exact Nat.ne_of_lt (Nat.lt_of_lt_of_le (by have := World.block_lt_of_cell? _ _ hw125_1; first | rwa [add_block] at this | exact this) GW128.out)) | (dsimp only; exact Nat.ne_of_lt (Nat.lt_of_lt_of_le (by have := World.block_lt_of_cell? _ _ hw125_1; first | rwa [add_block] at this | exact this) GW128.out))) _).trans (((cell_far (p := ⟨gb128, _, none⟩) (by first | exact Nat.ne_of_lt (Nat.lt_of_lt_of_le (by have := World.block_lt_of_cell? _ _ hw125_1; first | rwa [add_block] at this | exact this) GW128.out) | (rw [add_block]; exact Nat.ne_of_lt (Nat.lt_of_lt_of_le (by have := World.block_lt_of_cell? _ _ hw125_1; first | rwa [add_block] at this | exact this) GW128.out)) | (show (Addr.add _ _).block ≠ _; rw [add_block]; exact Nat.ne_of_lt (Nat.lt_of_lt_of_le (by have := World.block_lt_of_cell? _ _ hw125_1; first | rwa [add_block] at this | exact this) GW128.out)) | (dsimp only; exact Nat.ne_of_lt (Nat.lt_of_lt_of_le (by have := World.block_lt_of_cell? _ _ hw125_1; first | rwa [add_block] at this | exact this) GW128.out))) _).trans (hHeld.2.2.2.2.2.1)))), ((cell_far (p := ⟨gb128, _, none⟩) (by first | exact Nat.ne_of_lt (Nat.lt_of_lt_of_le (by have := World.block_lt_of_cell? _ _ hw126_0; first | rwa [add_block] at this | exact this) GW128.out) | (rw [add_block]; exact Nat.ne_of_lt (Nat.lt_of_lt_of_le (by have := World.block_lt_of_cell? _ _ hw126_0; first | rwa [add_block] at this | exact this) GW128.out)) | (show (Addr.add _ _).block ≠ _; rw [add_block]; exact Nat.ne_of_lt (Nat.lt_of_lt_of_le (by have := World.block_lt_of_cell? _ _ hw126_0; first | rwa [add_block] at this | exact this) GW128.out)) | (dsimp only; exact Nat.ne_of_lt (Nat.lt_of_lt_of_le (by have := World.block_lt_of_cell? _ _ hw126_0; first | rwa [add_block] at this | exact this) GW128.out))) _).trans (((cell_far (p := ⟨gb128, _, none⟩) (by first | exact Nat.ne_of_lt (Nat.lt_of_lt_of_le (by have := World.block_lt_of_cell? _ _ hw126_0; first | rwa [add_block] at this | exact this) GW128.out) | (rw [add_block]; exact Nat.ne_of_lt (Nat.lt_of_lt_of_le (by have := World.block_lt_of_cell? _ _ hw126_0; first | rwa [add_block] at this | exact this) GW128.out)) | (show (Addr.add _ _).block ≠ _; rw [add_block]; exact Nat.ne_of_lt (Nat.lt_of_lt_of_le (by have := World.block_lt_of_cell? _ _ hw126_0; first | rwa [add_block] at this | exact this) GW128.out)) | (dsimp only; exact Nat.ne_of_lt (Nat.lt_of_lt_of_le (by have := World.block_lt_of_cell? _ _ hw126_0; first | rwa [add_block] at this | exact this) GW128.out))) _).trans (hHeld.2.2.2.2.2.2.1)))), ((cell_far (p := ⟨gb128, _, none⟩) (by first | exact Nat.ne_of_lt (Nat.lt_of_lt_of_le (by have := World.block_lt_of_cell? _ _ hw126_1; first | rwa [add_block] at this | exact this) GW128.out) | (rw [add_block]; exact Nat.ne_of_lt (Nat.lt_of_lt_of_le (by have := World.block_lt_of_cell? _ _ hw126_1; first | rwa [add_block] at this | exact this) GW128.out)) | (show (Addr.add _ _).block ≠ _; rw [add_block]; exact Nat.ne_of_lt (Nat.lt_of_lt_of_le (by have := World.block_lt_of_cell? _ _ hw126_1; first | rwa [add_block] at this | exact this) GW128.out)) | (dsimp only; exact Nat.ne_of_lt (Nat.lt_of_lt_of_le (by have := World.block_lt_of_cell? _ _ hw126_1; first | rwa [add_block] at this | exact this) GW128.out))) _).trans (((cell_far (p := ⟨gb128, _, none⟩) (by first | exact Nat.ne_of_lt (Nat.lt_of_lt_of_le (by have := World.block_lt_of_cell? _ _ hw126_1; first | rwa [add_block] at this | exact this) GW128.out) | (rw [add_block]; exact Nat.ne_of_lt (Nat.lt_of_lt_of_le (by have := World.block_lt_of_cell? _ _ hw126_1; first | rwa [add_block] at this | exact this) GW128.out)) | (show (Addr.add _ _).block ≠ _; rw [add_block]; exact Nat.ne_of_lt (Nat.lt_of_lt_of_le (by have := World.block_lt_of_cell? _ _ hw126_1; first | rwa [add_block] at this | exact this) GW128.out)) | (dsimp only; exact Nat.ne_of_lt (Nat.lt_of_lt_of_le (by have := World.block_lt_of_cell? _ _ hw126_1; first | rwa [add_block] at this | exact this) GW128.out))) _).trans (hHeld.2.2.2.2.2.2.2))))⟩ (fun hHeld => ?_)
         clear hK K
         refine done_ (done_of HT_.out (by kernel_rfl)) ?_
         try go_wp2
         have n0_ : Aside0 (((((w40.setCell ⟨gb127, 0, none⟩ (.int .i64 ((rd_T28 l0_3 (ji6)).f0))).setCell ⟨gb127, 1, none⟩ (.int .i64 ((rd_T28 l0_3 (ji6)).f1))).setCell ⟨gb128, 0, none⟩ (.int .i64 ((rd_T28 l0_3 (ji9)).f0))).setCell ⟨gb128, 1, none⟩ (.int .i64 ((rd_T28 l0_3 (ji9)).f1))).heap[gb117]? = some (.cells #[.int .i64 a0_0, .int .i64 a0_1, .int .i64 a0_2, .slice (some ad125) l0_3.length c0_3] 24 (0, 0))) := ⟨by (with_reducible repeat (first | refine blk_drewN ?_ _ | refine blk_drew ?_ | refine blk_alloc ?_ _)); refine blk_far ?_ NB117_128.out _; (with_reducible repeat (first | refine blk_drewN ?_ _ | refine blk_drew ?_ | refine blk_alloc ?_ _)); refine blk_far ?_ NB117_128.out _; (with_reducible repeat (first | refine blk_drewN ?_ _ | refine blk_drew ?_ | refine blk_alloc ?_ _)); refine blk_far ?_ NB117_127.out _; (with_reducible repeat (first | refine blk_drewN ?_ _ | refine blk_drew ?_ | refine blk_alloc ?_ _)); refine blk_far ?_ NB117_127.out _; (with_reducible repeat (first | refine blk_drewN ?_ _ | refine blk_drew ?_ | refine blk_alloc ?_ _)); exact BK117.out⟩
         have n1_ : Aside0 (((((w40.setCell ⟨gb127, 0, none⟩ (.int .i64 ((rd_T28 l0_3 (ji6)).f0))).setCell ⟨gb127, 1, none⟩ (.int .i64 ((rd_T28 l0_3 (ji6)).f1))).setCell ⟨gb128, 0, none⟩ (.int .i64 ((rd_T28 l0_3 (ji9)).f0))).setCell ⟨gb128, 1, none⟩ (.int .i64 ((rd_T28 l0_3 (ji9)).f1))).heap[gb118]? = some (.cells #[.int .i64 0, .int .i64 0] 28 (0, 0))) := ⟨by (with_reducible repeat (first | refine blk_drewN ?_ _ | refine blk_drew ?_ | refine blk_alloc ?_ _)); refine blk_far ?_ NB118_128.out _; (with_reducible repeat (first | refine blk_drewN ?_ _ | refine blk_drew ?_ | refine blk_alloc ?_ _)); refine blk_far ?_ NB118_128.out _; (with_reducible repeat (first | refine blk_drewN ?_ _ | refine blk_drew ?_ | refine blk_alloc ?_ _)); refine blk_far ?_ NB118_127.out _; (with_reducible repeat (first | refine blk_drewN ?_ _ | refine blk_drew ?_ | refine blk_alloc ?_ _)); refine blk_far ?_ NB118_127.out _; (with_reducible repeat (first | refine blk_drewN ?_ _ | refine blk_drew ?_ | refine blk_alloc ?_ _)); exact BK118.out⟩
         have n2_ : Aside0 (((((w40.setCell ⟨gb127, 0, none⟩ (.int .i64 ((rd_T28 l0_3 (ji6)).f0))).setCell ⟨gb127, 1, none⟩ (.int .i64 ((rd_T28 l0_3 (ji6)).f1))).setCell ⟨gb128, 0, none⟩ (.int .i64 ((rd_T28 l0_3 (ji9)).f0))).setCell ⟨gb128, 1, none⟩ (.int .i64 ((rd_T28 l0_3 (ji9)).f1))).heap[gb121]? = some (.cells #[.int .i64 t120] 3 (0, 0))) := ⟨by (with_reducible repeat (first | refine blk_drewN ?_ _ | refine blk_drew ?_ | refine blk_alloc ?_ _)); refine blk_far ?_ NB121_128.out _; (with_reducible repeat (first | refine blk_drewN ?_ _ | refine blk_drew ?_ | refine blk_alloc ?_ _)); refine blk_far ?_ NB121_128.out _; (with_reducible repeat (first | refine blk_drewN ?_ _ | refine blk_drew ?_ | refine blk_alloc ?_ _)); refine blk_far ?_ NB121_127.out _; (with_reducible repeat (first | refine blk_drewN ?_ _ | refine blk_drew ?_ | refine blk_alloc ?_ _)); refine blk_far ?_ NB121_127.out _; (with_reducible repeat (first | refine blk_drewN ?_ _ | refine blk_drew ?_ | refine blk_alloc ?_ _)); exact BK121.out⟩
         have n3_ : Aside0 (((((w40.setCell ⟨gb127, 0, none⟩ (.int .i64 ((rd_T28 l0_3 (ji6)).f0))).setCell ⟨gb127, 1, none⟩ (.int .i64 ((rd_T28 l0_3 (ji6)).f1))).setCell ⟨gb128, 0, none⟩ (.int .i64 ((rd_T28 l0_3 (ji9)).f0))).setCell ⟨gb128, 1, none⟩ (.int .i64 ((rd_T28 l0_3 (ji9)).f1))).heap[gb124]? = some (.cells #[.int .i64 t123] 3 (0, 0))) := ⟨by (with_reducible repeat (first | refine blk_drewN ?_ _ | refine blk_drew ?_ | refine blk_alloc ?_ _)); refine blk_far ?_ NB124_128.out _; (with_reducible repeat (first | refine blk_drewN ?_ _ | refine blk_drew ?_ | refine blk_alloc ?_ _)); refine blk_far ?_ NB124_128.out _; (with_reducible repeat (first | refine blk_drewN ?_ _ | refine blk_drew ?_ | refine blk_alloc ?_ _)); refine blk_far ?_ NB124_127.out _; (with_reducible repeat (first | refine blk_drewN ?_ _ | refine blk_drew ?_ | refine blk_alloc ?_ _)); refine blk_far ?_ NB124_127.out _; (with_reducible repeat (first | refine blk_drewN ?_ _ | refine blk_drew ?_ | refine blk_alloc ?_ _)); exact BK124.out⟩
         have n4_ : Aside0 (((((w40.setCell ⟨gb127, 0, none⟩ (.int .i64 ((rd_T28 l0_3 (ji6)).f0))).setCell ⟨gb127, 1, none⟩ (.int .i64 ((rd_T28 l0_3 (ji6)).f1))).setCell ⟨gb128, 0, none⟩ (.int .i64 ((rd_T28 l0_3 (ji9)).f0))).setCell ⟨gb128, 1, none⟩ (.int .i64 ((rd_T28 l0_3 (ji9)).f1))).heap[gb127]? = some (.cells #[.int .i64 ((rd_T28 l0_3 (ji6)).f0), .int .i64 ((rd_T28 l0_3 (ji6)).f1)] 28 (0, 0))) := ⟨by (with_reducible repeat (first | refine blk_drewN ?_ _ | refine blk_drew ?_ | refine blk_alloc ?_ _)); refine blk_far ?_ NB127_128.out _; (with_reducible repeat (first | refine blk_drewN ?_ _ | refine blk_drew ?_ | refine blk_alloc ?_ _)); refine blk_far ?_ NB127_128.out _; (with_reducible repeat (first | refine blk_drewN ?_ _ | refine blk_drew ?_ | refine blk_alloc ?_ _)); refine blk_put (cs := #[.int .i64 ((rd_T28 l0_3 (ji6)).f0), .int .i64 0]) ?_ 1 _ rfl; (with_reducible repeat (first | refine blk_drewN ?_ _ | refine blk_drew ?_ | refine blk_alloc ?_ _)); refine blk_put (cs := #[.int .i64 0, .int .i64 0]) ?_ 0 _ rfl; (with_reducible repeat (first | refine blk_drewN ?_ _ | refine blk_drew ?_ | refine blk_alloc ?_ _)); exact BK127.out⟩
         have n5_ : Aside0 (((((w40.setCell ⟨gb127, 0, none⟩ (.int .i64 ((rd_T28 l0_3 (ji6)).f0))).setCell ⟨gb127, 1, none⟩ (.int .i64 ((rd_T28 l0_3 (ji6)).f1))).setCell ⟨gb128, 0, none⟩ (.int .i64 ((rd_T28 l0_3 (ji9)).f0))).setCell ⟨gb128, 1, none⟩ (.int .i64 ((rd_T28 l0_3 (ji9)).f1))).heap[gb128]? = some (.cells #[.int .i64 ((rd_T28 l0_3 (ji9)).f0), .int .i64 ((rd_T28 l0_3 (ji9)).f1)] 28 (0, 0))) := ⟨by (with_reducible repeat (first | refine blk_drewN ?_ _ | refine blk_drew ?_ | refine blk_alloc ?_ _)); refine blk_put (cs := #[.int .i64 ((rd_T28 l0_3 (ji9)).f0), .int .i64 0]) ?_ 1 _ rfl; (with_reducible repeat (first | refine blk_drewN ?_ _ | refine blk_drew ?_ | refine blk_alloc ?_ _)); refine blk_put (cs := #[.int .i64 0, .int .i64 0]) ?_ 0 _ rfl; (with_reducible repeat (first | refine blk_drewN ?_ _ | refine blk_drew ?_ | refine blk_alloc ?_ _)); refine blk_far ?_ NB128_127.out _; (with_reducible repeat (first | refine blk_drewN ?_ _ | refine blk_drew ?_ | refine blk_alloc ?_ _)); refine blk_far ?_ NB128_127.out _; (with_reducible repeat (first | refine blk_drewN ?_ _ | refine blk_drew ?_ | refine blk_alloc ?_ _)); exact BK128.out⟩
         have n6_ : Aside0 (Below w.heap.size w ((((w40.setCell ⟨gb127, 0, none⟩ (.int .i64 ((rd_T28 l0_3 (ji6)).f0))).setCell ⟨gb127, 1, none⟩ (.int .i64 ((rd_T28 l0_3 (ji6)).f1))).setCell ⟨gb128, 0, none⟩ (.int .i64 ((rd_T28 l0_3 (ji9)).f0))).setCell ⟨gb128, 1, none⟩ (.int .i64 ((rd_T28 l0_3 (ji9)).f1)))) := ⟨by repeat (first | (with_reducible first | exact HB.out | apply below_alloc | apply pw_below_drewN | apply below_drew1 | refine below_set ?_ GE127.out | refine below_set ?_ GE128.out) | exact HB.out)⟩
         (try clear BK117)
         (try clear BK118)
         (try clear BK121)
         (try clear BK124)
         (try clear BK127)
         (try clear BK128)
         (try clear HB)
         generalize ((((w40.setCell ⟨gb127, 0, none⟩ (.int .i64 ((rd_T28 l0_3 (ji6)).f0))).setCell ⟨gb127, 1, none⟩ (.int .i64 ((rd_T28 l0_3 (ji6)).f1))).setCell ⟨gb128, 0, none⟩ (.int .i64 ((rd_T28 l0_3 (ji9)).f0))).setCell ⟨gb128, 1, none⟩ (.int .i64 ((rd_T28 l0_3 (ji9)).f1))) = w45 at n0_ n1_ n2_ n3_ n4_ n5_ n6_ ⊢
         have BK117 := n0_
         have BK118 := n1_
         have BK121 := n2_
         have BK124 := n3_
         have BK127 := n4_
         have BK128 := n5_
         have HB := n6_
         clear n0_ n1_ n2_ n3_ n4_ n5_ n6_
         replace BK117 := zkd BK117
         replace BK118 := zkd BK118
         replace BK121 := zkd BK121
         replace BK124 := zkd BK124
         replace BK127 := zkd BK127
         replace BK128 := zkd BK128
         replace HB := zbd HB
         have p129 : 0 ≤ ((ji12) : Int) := of_decide_eq_true (by first | (with_reducible assumption) | assumption)
         have q129 : (ji12) < (l0_3.length : Int) := of_decide_eq_true (by first | (with_reducible assumption) | assumption)
         obtain ⟨ad129, e129, hx129_0, hx129_1⟩ := at_T28 HR0_3.out (ji12) p129 q129
         have hw129_1 := hx129_1
         have hw129_0 := hx129_0
         obtain rfl : ad125 = ad129 := (by injection e129)
         replace hx129_0 := (HB.out.cell (World.block_lt_of_cell? w _ hx129_0)).trans hx129_0
         replace hx129_1 := (HB.out.cell (World.block_lt_of_cell? w _ hx129_1)).trans hx129_1
         replace p129 := eq_true p129
         replace q129 := eq_true q129
         have p130 : 0 ≤ ((ji15) : Int) := of_decide_eq_true (by first | (with_reducible assumption) | assumption)
         have q130 : (ji15) < (l0_3.length : Int) := of_decide_eq_true (by first | (with_reducible assumption) | assumption)
         obtain ⟨ad130, e130, hx130_0, hx130_1⟩ := at_T28 HR0_3.out (ji15) p130 q130
         have hw130_1 := hx130_1
         have hw130_0 := hx130_0
         obtain rfl : ad125 = ad130 := (by injection e130)
         replace hx130_0 := (HB.out.cell (World.block_lt_of_cell? w _ hx130_0)).trans hx130_0
         replace hx130_1 := (HB.out.cell (World.block_lt_of_cell? w _ hx130_1)).trans hx130_1
         replace p130 := eq_true p130
         replace q130 := eq_true q130
         refine start_ (n := 27) (S := fun w' => w'.cell? ⟨gb117, 0, none⟩ = some (.int .i64 a0_0) ∧ w'.cell? ⟨gb117, 1, none⟩ = some (.int .i64 a0_1) ∧ w'.cell? ⟨gb117, 2, none⟩ = some (.int .i64 a0_2) ∧ w'.cell? ⟨gb117, 3, none⟩ = some (.slice (some ad125) l0_3.length c0_3) ∧ w'.cell? (ad125.add (((ji12)).toNat * 2)) = some (.int .i64 ((rd_T28 l0_3 (ji12)).f0)) ∧ w'.cell? ⟨(ad125.add (((ji12)).toNat * 2)).block, (ad125.add (((ji12)).toNat * 2)).off + 1, none⟩ = some (.int .i64 ((rd_T28 l0_3 (ji12)).f1)) ∧ w'.cell? (ad125.add (((ji15)).toNat * 2)) = some (.int .i64 ((rd_T28 l0_3 (ji15)).f0)) ∧ w'.cell? ⟨(ad125.add (((ji15)).toNat * 2)).block, (ad125.add (((ji15)).toNat * 2)).off + 1, none⟩ = some (.int .i64 ((rd_T28 l0_3 (ji15)).f1))) (ds := []) (bs 27 0) (by kernel_rfl) rfl rfl ⟨(blk_cell BK117.out 0).trans rfl, (blk_cell BK117.out 1).trans rfl, (blk_cell BK117.out 2).trans rfl, (blk_cell BK117.out 3).trans rfl, ((HB.out.cell (World.block_lt_of_cell? w _ hw129_0)).trans hw129_0), ((HB.out.cell (World.block_lt_of_cell? w _ hw129_1)).trans hw129_1), ((HB.out.cell (World.block_lt_of_cell? w _ hw130_0)).trans hw130_0), ((HB.out.cell (World.block_lt_of_cell? w _ hw130_1)).trans hw130_1)⟩ (fun hHeld => ?_); refine with_tabW warp_at.tab4 warp_at.bits4 (fun HT_ HW_ => ?_)
         generalize w45.drew = w46 at BK117 BK118 BK121 BK124 BK127 BK128 HB hx129_0 hx129_1 hx130_0 hx130_1 hHeld ⊢
         refine pure_ (i := 0) (N := some 56) (v := ?_) (a' := ?_) (bs 27 1) rfl rfl (any_of HT_.out (by kernel_rfl)) (fun _ _ _ h => h) (Or.inl ⟨by rfl, ?_⟩) ?_ ?_
         rotate_left
         ·intro w'
          go_simp
          with_reducible rfl
         rotate_left
         ·simp only [Act.put, sA, sB, sC, i64_w, i32_w]
          rfl
         refine pure_ (i := 2) (N := some 58) (v := ?_) (a' := ?_) (bs 27 5) rfl rfl (any_of HT_.out (by kernel_rfl)) (fun _ _ _ h => h) (Or.inl ⟨by rfl, ?_⟩) ?_ ?_
         rotate_left
         ·intro w'
          go_simp
          with_reducible rfl
         rotate_left
         ·simp only [Act.put, sA, sB, sC, i64_w, i32_w]
          rfl
         refine pure_ (i := 3) (N := some 59) (v := ?_) (a' := ?_) (bs 27 13) rfl rfl (any_of HT_.out (by kernel_rfl)) (fun _ _ _ h => h) (Or.inl ⟨by rfl, ?_⟩) ?_ ?_
         rotate_left
         ·intro w'
          go_simp
          with_reducible rfl
         rotate_left
         ·simp only [Act.put, sA, sB, sC, i64_w, i32_w]
          rfl
         refine pure_ (i := 4) (N := some 60) (v := ?_) (a' := ?_) (bs 27 29) rfl rfl (any_of HT_.out (by kernel_rfl)) (fun _ _ _ h => h) (Or.inl ⟨by rfl, ?_⟩) ?_ ?_
         rotate_left
         ·intro w'
          go_simp
          with_reducible rfl
         rotate_left
         ·simp only [Act.put, sA, sB, sC, i64_w, i32_w]
          rfl
         refine pure_ (i := 7) (N := some 63) (v := ?_) (a' := ?_) (bs 27 157) rfl rfl (any_of HT_.out (by kernel_rfl)) (fun _ _ _ h => h) (Or.inl ⟨by rfl, ?_⟩) ?_ ?_
         rotate_left
         ·intro w'
          go_simp
          with_reducible rfl
         rotate_left
         ·simp only [Act.put, sA, sB, sC, i64_w, i32_w]
          rfl
         refine pure_ (i := 11) (N := some 67) (v := ?_) (a' := ?_) (bs 27 2205) rfl rfl (any_of HT_.out (by kernel_rfl)) (fun _ _ _ h => h) (Or.inl ⟨by rfl, ?_⟩) ?_ ?_
         rotate_left
         ·intro w'
          go_simp
          with_reducible rfl
         rotate_left
         ·simp only [Act.put, sA, sB, sC, i64_w, i32_w]
          rfl
         refine pure_ (i := 13) (N := some 69) (v := ?_) (a' := ?_) (bs 27 10397) rfl rfl (any_of HT_.out (by kernel_rfl)) (fun _ _ _ h => h) (Or.inl ⟨by rfl, ?_⟩) ?_ ?_
         rotate_left
         ·intro w'
          go_simp
          with_reducible rfl
         rotate_left
         ·simp only [Act.put, sA, sB, sC, i64_w, i32_w]
          rfl
         refine pure_ (i := 14) (N := some 70) (v := ?_) (a' := ?_) (bs 27 26781) rfl rfl (any_of HT_.out (by kernel_rfl)) (fun _ _ _ h => h) (Or.inl ⟨by rfl, ?_⟩) ?_ ?_
         rotate_left
         ·intro w'
          go_simp
          with_reducible rfl
         rotate_left
         ·simp only [Act.put, sA, sB, sC, i64_w, i32_w]
          rfl
         refine pure_ (i := 15) (N := some 71) (v := ?_) (a' := ?_) (bs 27 59549) rfl rfl (any_of HT_.out (by kernel_rfl)) (fun _ _ _ h => h) (Or.inl ⟨by rfl, ?_⟩) ?_ ?_
         rotate_left
         ·intro w'
          go_simp
          with_reducible rfl
         rotate_left
         ·simp only [Act.put, sA, sB, sC, i64_w, i32_w]
          rfl
         refine pure_ (i := 18) (N := some 74) (v := ?_) (a' := ?_) (bs 27 321693) rfl rfl (any_of HT_.out (by kernel_rfl)) (fun _ _ _ h => h) (Or.inl ⟨by rfl, ?_⟩) ?_ ?_
         rotate_left
         ·intro w'
          go_simp
          with_reducible rfl
         rotate_left
         ·simp only [Act.put, sA, sB, sC, i64_w, i32_w]
          rfl
         refine take_ (i := 1) (N := some 57) (v := ?_) (a' := ?_) (bs 27 321695) rfl rfl (take_ofW HT_.out HW_.out (by kernel_rfl)) (fun _ _ _ h => h) (Or.inl ⟨by rfl, ?_⟩) hHeld ?_ ?_
         rotate_left
         ·rintro w' ⟨s0, s1, s2, s3, s4, s5, s6, s7⟩
          go_simp
          with_reducible rfl
         rotate_left
         ·simp only [Act.put, sA, sB, sC, i64_w, i32_w]
          rfl
         refine take_ (i := 5) (N := some 61) (v := ?_) (a' := ?_) (bs 27 321727) rfl rfl (take_ofW HT_.out HW_.out (by kernel_rfl)) (fun _ _ _ h => h) (Or.inl ⟨by rfl, ?_⟩) hHeld ?_ ?_
         rotate_left
         ·rintro w' ⟨s0, s1, s2, s3, s4, s5, s6, s7⟩
          go_simp
          with_reducible rfl
         rotate_left
         ·simp only [Act.put, sA, sB, sC, i64_w, i32_w]
          rfl
         refine pure_ (i := 6) (N := some 62) (v := ?_) (a' := ?_) (bs 27 321791) rfl rfl (any_of HT_.out (by kernel_rfl)) (fun _ _ _ h => h) (Or.inl ⟨by rfl, ?_⟩) ?_ ?_
         rotate_left
         ·intro w'
          go_simp
          with_reducible rfl
         rotate_left
         ·simp only [Act.put, sA, sB, sC, i64_w, i32_w]
          rfl
         refine pure_ (i := 8) (N := some 64) (v := ?_) (a' := ?_) (bs 27 322047) rfl rfl (any_of HT_.out (by kernel_rfl)) (fun _ _ _ h => h) (Or.inl ⟨by rfl, ?_⟩) ?_ ?_
         rotate_left
         ·intro w'
          go_simp
          with_reducible rfl
         rotate_left
         ·simp only [Act.put, sA, sB, sC, i64_w, i32_w]
          rfl
         refine pure_ (i := 9) (N := some 65) (v := ?_) (a' := ?_) (bs 27 322559) rfl rfl (any_of HT_.out (by kernel_rfl)) (fun _ _ _ h => h) (Or.inl ⟨by rfl, ?_⟩) ?_ ?_
         rotate_left
         ·intro w'
          go_simp
          with_reducible rfl
         rotate_left
         ·simp only [Act.put, sA, sB, sC, i64_w, i32_w]
          rfl
         refine take_ (i := 10) (N := some 66) (v := ?_) (a' := ?_) (bs 27 323583) rfl rfl (take_ofW HT_.out HW_.out (by kernel_rfl)) (fun _ _ _ h => h) (Or.inl ⟨by rfl, ?_⟩) hHeld ?_ ?_
         rotate_left
         ·rintro w' ⟨s0, s1, s2, s3, s4, s5, s6, s7⟩
          go_simp
          with_reducible rfl
         rotate_left
         ·simp only [Act.put, sA, sB, sC, i64_w, i32_w]
          rfl
         refine take_ (i := 12) (N := some 68) (v := ?_) (a' := ?_) (bs 27 327679) rfl rfl (take_ofW HT_.out HW_.out (by kernel_rfl)) (fun _ _ _ h => h) (Or.inl ⟨by rfl, ?_⟩) hHeld ?_ ?_
         rotate_left
         ·rintro w' ⟨s0, s1, s2, s3, s4, s5, s6, s7⟩
          go_simp
          with_reducible rfl
         rotate_left
         ·simp only [Act.put, sA, sB, sC, i64_w, i32_w]
          rfl
         refine take_ (i := 16) (N := some 72) (v := ?_) (a' := ?_) (bs 27 393215) rfl rfl (take_ofW HT_.out HW_.out (by kernel_rfl)) (fun _ _ _ h => h) (Or.inl ⟨by rfl, ?_⟩) hHeld ?_ ?_
         rotate_left
         ·rintro w' ⟨s0, s1, s2, s3, s4, s5, s6, s7⟩
          go_simp
          with_reducible rfl
         rotate_left
         ·simp only [Act.put, sA, sB, sC, i64_w, i32_w]
          rfl
         refine pure_ (i := 17) (N := some 73) (v := ?_) (a' := ?_) (bs 27 524287) rfl rfl (any_of HT_.out (by kernel_rfl)) (fun _ _ _ h => h) (Or.inl ⟨by rfl, ?_⟩) ?_ ?_
         rotate_left
         ·intro w'
          go_simp
          with_reducible rfl
         rotate_left
         ·simp only [Act.put, sA, sB, sC, i64_w, i32_w]
          rfl
         refine pure_ (i := 19) (N := some 75) (v := ?_) (a' := ?_) (bs 27 1048575) rfl rfl (any_of HT_.out (by kernel_rfl)) (fun _ _ _ h => h) (Or.inl ⟨by rfl, ?_⟩) ?_ ?_
         rotate_left
         ·intro w'
          go_simp
          with_reducible rfl
         rotate_left
         ·simp only [Act.put, sA, sB, sC, i64_w, i32_w]
          rfl
         refine pure_ (i := 20) (N := some 76) (v := ?_) (a' := ?_) (bs 27 2097151) rfl rfl (any_of HT_.out (by kernel_rfl)) (fun _ _ _ h => h) (Or.inl ⟨by rfl, ?_⟩) ?_ ?_
         rotate_left
         ·intro w'
          go_simp
          with_reducible rfl
         rotate_left
         ·simp only [Act.put, sA, sB, sC, i64_w, i32_w]
          rfl
         refine pure_ (i := 21) (N := some 77) (v := ?_) (a' := ?_) (bs 27 4194303) rfl rfl (any_of HT_.out (by kernel_rfl)) (fun _ _ _ h => h) (Or.inl ⟨by rfl, ?_⟩) ?_ ?_
         rotate_left
         ·intro w'
          go_simp
          with_reducible rfl
         rotate_left
         ·simp only [Act.put, sA, sB, sC, i64_w, i32_w]
          rfl
         refine take_ (i := 22) (N := some 78) (v := ?_) (a' := ?_) (bs 27 8388607) rfl rfl (take_ofW HT_.out HW_.out (by kernel_rfl)) (fun _ _ _ h => h) (Or.inl ⟨by rfl, ?_⟩) hHeld ?_ ?_
         rotate_left
         ·rintro w' ⟨s0, s1, s2, s3, s4, s5, s6, s7⟩
          go_simp
          with_reducible rfl
         rotate_left
         ·simp only [Act.put, sA, sB, sC, i64_w, i32_w]
          rfl
         refine join_ (σ := Nat × Nat) 2 (bs 27 33554431) (fun s_ => [(13, .pointer (some ⟨s_.1, 0, none⟩)), (14, .pointer (some ⟨s_.2, 0, none⟩))]) (fun s_ w' => (w'.cell? ⟨gb117, 0, none⟩ = some (.int .i64 a0_0) ∧ w'.cell? ⟨gb117, 1, none⟩ = some (.int .i64 a0_1) ∧ w'.cell? ⟨gb117, 2, none⟩ = some (.int .i64 a0_2) ∧ w'.cell? ⟨gb117, 3, none⟩ = some (.slice (some ad125) l0_3.length c0_3) ∧ w'.cell? (ad125.add (((ji12)).toNat * 2)) = some (.int .i64 ((rd_T28 l0_3 (ji12)).f0)) ∧ w'.cell? ⟨(ad125.add (((ji12)).toNat * 2)).block, (ad125.add (((ji12)).toNat * 2)).off + 1, none⟩ = some (.int .i64 ((rd_T28 l0_3 (ji12)).f1)) ∧ w'.cell? (ad125.add (((ji15)).toNat * 2)) = some (.int .i64 ((rd_T28 l0_3 (ji15)).f0)) ∧ w'.cell? ⟨(ad125.add (((ji15)).toNat * 2)).block, (ad125.add (((ji15)).toNat * 2)).off + 1, none⟩ = some (.int .i64 ((rd_T28 l0_3 (ji15)).f1))) ∧ (w'.heap[gb117]? = some (.cells #[.int .i64 a0_0, .int .i64 a0_1, .int .i64 a0_2, .slice (some ad125) l0_3.length c0_3] 24 (0, 0))) ∧ (w'.heap[gb118]? = some (.cells #[.int .i64 0, .int .i64 0] 28 (0, 0))) ∧ (w'.heap[gb121]? = some (.cells #[.int .i64 t120] 3 (0, 0))) ∧ (w'.heap[gb124]? = some (.cells #[.int .i64 t123] 3 (0, 0))) ∧ (w'.heap[gb127]? = some (.cells #[.int .i64 ((rd_T28 l0_3 (ji6)).f0), .int .i64 ((rd_T28 l0_3 (ji6)).f1)] 28 (0, 0))) ∧ (w'.heap[gb128]? = some (.cells #[.int .i64 ((rd_T28 l0_3 (ji9)).f0), .int .i64 ((rd_T28 l0_3 (ji9)).f1)] 28 (0, 0))) ∧ (w'.heap[s_.1]? = some (.cells #[.int .i64 0, .int .i64 0] 28 (0, 0))) ∧ (w'.heap[s_.2]? = some (.cells #[.int .i64 0, .int .i64 0] 28 (0, 0))) ∧ (w.heap.size ≤ s_.1) ∧ (w.heap.size ≤ s_.1) ∧ (gb117 ≠ s_.1) ∧ (s_.1 ≠ gb117) ∧ (gb118 ≠ s_.1) ∧ (s_.1 ≠ gb118) ∧ (gb121 ≠ s_.1) ∧ (s_.1 ≠ gb121) ∧ (gb124 ≠ s_.1) ∧ (s_.1 ≠ gb124) ∧ (gb127 ≠ s_.1) ∧ (s_.1 ≠ gb127) ∧ (gb128 ≠ s_.1) ∧ (s_.1 ≠ gb128) ∧ (s_.2 ≠ s_.1) ∧ (s_.1 ≠ s_.2) ∧ (w.heap.size ≤ s_.2) ∧ (w.heap.size ≤ s_.2) ∧ (gb117 ≠ s_.2) ∧ (s_.2 ≠ gb117) ∧ (gb118 ≠ s_.2) ∧ (s_.2 ≠ gb118) ∧ (gb121 ≠ s_.2) ∧ (s_.2 ≠ gb121) ∧ (gb124 ≠ s_.2) ∧ (s_.2 ≠ gb124) ∧ (gb127 ≠ s_.2) ∧ (s_.2 ≠ gb127) ∧ (gb128 ≠ s_.2) ∧ (s_.2 ≠ gb128) ∧ (Below w.heap.size w w')) ?_ ?_
         rotate_left
         ·intro hCont
          refine two_ (i := 23) (j := 24) (Ni := some 13) (Nj := some 14) (bs 27 16777215) (bs 27 25165823) rfl rfl rfl rfl (two_of HT_.out (by kernel_rfl)) (by decide) (by decide) (fun K hK => ?_) (fun K hK => ?_)
          ·skip
           refine box_step ?hg (N := 13) ?hd (cs := #[.int .i64 0, .int .i64 0]) (t := 28) ?hr ?_; (case hd => rfl); (case hg => rfl); (case hr => first | (go_simp; done) | (go_simp; rfl))
           intro gb131 hg w47 hbox hb
           have GW131 := zg HB hg
           have GE131 := zg HB hg
           have NB117_131 := zn BK117 hg
           have NB131_117 := zn' BK117 hg
           have NB118_131 := zn BK118 hg
           have NB131_118 := zn' BK118 hg
           have NB121_131 := zn BK121 hg
           have NB131_121 := zn' BK121 hg
           have NB124_131 := zn BK124 hg
           have NB131_124 := zn' BK124 hg
           have NB127_131 := zn BK127 hg
           have NB131_127 := zn' BK127 hg
           have NB128_131 := zn BK128 hg
           have NB131_128 := zn' BK128 hg
           have n0_ := Aside0.mk (hbox)
           replace BK117 := zk BK117 hb
           replace BK118 := zk BK118 hb
           replace BK121 := zk BK121 hb
           replace BK124 := zk BK124 hb
           replace BK127 := zk BK127 hb
           replace BK128 := zk BK128 hb
           replace HB := zb HB hb
           have BK131 := n0_
           clear n0_
           clear hb hbox hg
           refine hK.out _ _ ⟨(blk_cell BK117.out 0).trans rfl, (blk_cell BK117.out 1).trans rfl, (blk_cell BK117.out 2).trans rfl, (blk_cell BK117.out 3).trans rfl, ((HB.out.cell (World.block_lt_of_cell? w _ hw129_0)).trans hw129_0), ((HB.out.cell (World.block_lt_of_cell? w _ hw129_1)).trans hw129_1), ((HB.out.cell (World.block_lt_of_cell? w _ hw130_0)).trans hw130_0), ((HB.out.cell (World.block_lt_of_cell? w _ hw130_1)).trans hw130_1)⟩ (fun hHeld => ?_)
           clear hK K
           refine norm_ (a' := ?_) ?_ ?_
           rotate_left
           ·show Act.put _ (some 13) _ = _
            simp only [Act.put, sA, sB, sC, i64_w, i32_w]
            rfl
           refine one_ (i := 24) (N := some 14) (bs 27 33554431) rfl rfl (one_of HT_.out (by kernel_rfl)) (by decide) (fun K hK => ?_)
           refine box_step ?hg (N := 14) ?hd (cs := #[.int .i64 0, .int .i64 0]) (t := 28) ?hr ?_; (case hd => rfl); (case hg => rfl); (case hr => first | (go_simp; done) | (go_simp; rfl))
           intro gb132 hg w48 hbox hb
           have GW132 := zg HB hg
           have GE132 := zg HB hg
           have NB117_132 := zn BK117 hg
           have NB132_117 := zn' BK117 hg
           have NB118_132 := zn BK118 hg
           have NB132_118 := zn' BK118 hg
           have NB121_132 := zn BK121 hg
           have NB132_121 := zn' BK121 hg
           have NB124_132 := zn BK124 hg
           have NB132_124 := zn' BK124 hg
           have NB127_132 := zn BK127 hg
           have NB132_127 := zn' BK127 hg
           have NB128_132 := zn BK128 hg
           have NB132_128 := zn' BK128 hg
           have NB131_132 := zn BK131 hg
           have NB132_131 := zn' BK131 hg
           have n0_ := Aside0.mk (hbox)
           replace BK117 := zk BK117 hb
           replace BK118 := zk BK118 hb
           replace BK121 := zk BK121 hb
           replace BK124 := zk BK124 hb
           replace BK127 := zk BK127 hb
           replace BK128 := zk BK128 hb
           replace BK131 := zk BK131 hb
           replace HB := zb HB hb
           have BK132 := n0_
           clear n0_
           clear hb hbox hg
           refine hK.out _ _ ⟨(blk_cell BK117.out 0).trans rfl, (blk_cell BK117.out 1).trans rfl, (blk_cell BK117.out 2).trans rfl, (blk_cell BK117.out 3).trans rfl, ((HB.out.cell (World.block_lt_of_cell? w _ hw129_0)).trans hw129_0), ((HB.out.cell (World.block_lt_of_cell? w _ hw129_1)).trans hw129_1), ((HB.out.cell (World.block_lt_of_cell? w _ hw130_0)).trans hw130_0), ((HB.out.cell (World.block_lt_of_cell? w _ hw130_1)).trans hw130_1)⟩ (fun hHeld => ?_)
           clear hK K
           refine norm_ (a' := ?_) ?_ ?_
           rotate_left
           ·show Act.put _ (some 14) _ = _
            simp only [Act.put, sA, sB, sC, i64_w, i32_w]
            rfl
           exact norm_ (by simp only [putAll, Act.put, sA, sB, sC]) (hCont (gb131, gb132) _ ⟨hHeld, (by exact zk0 BK117), (by exact zk0 BK118), (by exact zk0 BK121), (by exact zk0 BK124), (by exact zk0 BK127), (by exact zk0 BK128), (by exact zk0 BK131), (by exact zk0 BK132), GW131.out, GE131.out, NB117_131.out, NB131_117.out, NB118_131.out, NB131_118.out, NB121_131.out, NB131_121.out, NB124_131.out, NB131_124.out, NB127_131.out, NB131_127.out, NB128_131.out, NB131_128.out, NB132_131.out, NB131_132.out, GW132.out, GE132.out, NB117_132.out, NB132_117.out, NB118_132.out, NB132_118.out, NB121_132.out, NB132_121.out, NB124_132.out, NB132_124.out, NB127_132.out, NB132_127.out, NB128_132.out, NB132_128.out, (by exact zb0 HB)⟩)
          ·skip
           refine box_step ?hg (N := 14) ?hd (cs := #[.int .i64 0, .int .i64 0]) (t := 28) ?hr ?_; (case hd => rfl); (case hg => rfl); (case hr => first | (go_simp; done) | (go_simp; rfl))
           intro gb132 hg w47 hbox hb
           have GW132 := zg HB hg
           have GE132 := zg HB hg
           have NB117_132 := zn BK117 hg
           have NB132_117 := zn' BK117 hg
           have NB118_132 := zn BK118 hg
           have NB132_118 := zn' BK118 hg
           have NB121_132 := zn BK121 hg
           have NB132_121 := zn' BK121 hg
           have NB124_132 := zn BK124 hg
           have NB132_124 := zn' BK124 hg
           have NB127_132 := zn BK127 hg
           have NB132_127 := zn' BK127 hg
           have NB128_132 := zn BK128 hg
           have NB132_128 := zn' BK128 hg
           have n0_ := Aside0.mk (hbox)
           replace BK117 := zk BK117 hb
           replace BK118 := zk BK118 hb
           replace BK121 := zk BK121 hb
           replace BK124 := zk BK124 hb
           replace BK127 := zk BK127 hb
           replace BK128 := zk BK128 hb
           replace HB := zb HB hb
           have BK132 := n0_
           clear n0_
           clear hb hbox hg
           refine hK.out _ _ ⟨(blk_cell BK117.out 0).trans rfl, (blk_cell BK117.out 1).trans rfl, (blk_cell BK117.out 2).trans rfl, (blk_cell BK117.out 3).trans rfl, ((HB.out.cell (World.block_lt_of_cell? w _ hw129_0)).trans hw129_0), ((HB.out.cell (World.block_lt_of_cell? w _ hw129_1)).trans hw129_1), ((HB.out.cell (World.block_lt_of_cell? w _ hw130_0)).trans hw130_0), ((HB.out.cell (World.block_lt_of_cell? w _ hw130_1)).trans hw130_1)⟩ (fun hHeld => ?_)
           clear hK K
           refine norm_ (a' := ?_) ?_ ?_
           rotate_left
           ·show Act.put _ (some 14) _ = _
            simp only [Act.put, sA, sB, sC, i64_w, i32_w]
            rfl
           refine one_ (i := 23) (N := some 13) (bs 27 33554431) rfl rfl (one_of HT_.out (by kernel_rfl)) (by decide) (fun K hK => ?_)
           refine box_step ?hg (N := 13) ?hd (cs := #[.int .i64 0, .int .i64 0]) (t := 28) ?hr ?_; (case hd => rfl); (case hg => rfl); (case hr => first | (go_simp; done) | (go_simp; rfl))
           intro gb131 hg w48 hbox hb
           have GW131 := zg HB hg
           have GE131 := zg HB hg
           have NB117_131 := zn BK117 hg
           have NB131_117 := zn' BK117 hg
           have NB118_131 := zn BK118 hg
           have NB131_118 := zn' BK118 hg
           have NB121_131 := zn BK121 hg
           have NB131_121 := zn' BK121 hg
           have NB124_131 := zn BK124 hg
           have NB131_124 := zn' BK124 hg
           have NB127_131 := zn BK127 hg
           have NB131_127 := zn' BK127 hg
           have NB128_131 := zn BK128 hg
           have NB131_128 := zn' BK128 hg
           have NB132_131 := zn BK132 hg
           have NB131_132 := zn' BK132 hg
           have n0_ := Aside0.mk (hbox)
           replace BK117 := zk BK117 hb
           replace BK118 := zk BK118 hb
           replace BK121 := zk BK121 hb
           replace BK124 := zk BK124 hb
           replace BK127 := zk BK127 hb
           replace BK128 := zk BK128 hb
           replace BK132 := zk BK132 hb
           replace HB := zb HB hb
           have BK131 := n0_
           clear n0_
           clear hb hbox hg
           refine hK.out _ _ ⟨(blk_cell BK117.out 0).trans rfl, (blk_cell BK117.out 1).trans rfl, (blk_cell BK117.out 2).trans rfl, (blk_cell BK117.out 3).trans rfl, ((HB.out.cell (World.block_lt_of_cell? w _ hw129_0)).trans hw129_0), ((HB.out.cell (World.block_lt_of_cell? w _ hw129_1)).trans hw129_1), ((HB.out.cell (World.block_lt_of_cell? w _ hw130_0)).trans hw130_0), ((HB.out.cell (World.block_lt_of_cell? w _ hw130_1)).trans hw130_1)⟩ (fun hHeld => ?_)
           clear hK K
           refine norm_ (a' := ?_) ?_ ?_
           rotate_left
           ·show Act.put _ (some 13) _ = _
            simp only [Act.put, sA, sB, sC, i64_w, i32_w]
            rfl
           exact norm_ (by simp only [putAll, Act.put, sA, sB, sC]) (hCont (gb131, gb132) _ ⟨hHeld, (by exact zk0 BK117), (by exact zk0 BK118), (by exact zk0 BK121), (by exact zk0 BK124), (by exact zk0 BK127), (by exact zk0 BK128), (by exact zk0 BK131), (by exact zk0 BK132), GW131.out, GE131.out, NB117_131.out, NB131_117.out, NB118_131.out, NB131_118.out, NB121_131.out, NB131_121.out, NB124_131.out, NB131_124.out, NB127_131.out, NB131_127.out, NB128_131.out, NB131_128.out, NB132_131.out, NB131_132.out, GW132.out, GE132.out, NB117_132.out, NB132_117.out, NB118_132.out, NB132_118.out, NB121_132.out, NB132_121.out, NB124_132.out, NB132_124.out, NB127_132.out, NB132_127.out, NB128_132.out, NB132_128.out, (by exact zb0 HB)⟩)
         rintro ⟨gb131, gb132⟩ w49 ⟨hS_, h0_, h1_, h2_, h3_, h4_, h5_, h6_, h7_, h8_, h9_, h10_, h11_, h12_, h13_, h14_, h15_, h16_, h17_, h18_, h19_, h20_, h21_, h22_, h23_, h24_, h25_, h26_, h27_, h28_, h29_, h30_, h31_, h32_, h33_, h34_, h35_, h36_, h37_, h38_⟩
         have n0_ : Aside0 (w49.heap[gb117]? = some (.cells #[.int .i64 a0_0, .int .i64 a0_1, .int .i64 a0_2, .slice (some ad125) l0_3.length c0_3] 24 (0, 0))) := ⟨h0_⟩
         have n1_ : Aside0 (w49.heap[gb118]? = some (.cells #[.int .i64 0, .int .i64 0] 28 (0, 0))) := ⟨h1_⟩
         have n2_ : Aside0 (w49.heap[gb121]? = some (.cells #[.int .i64 t120] 3 (0, 0))) := ⟨h2_⟩
         have n3_ : Aside0 (w49.heap[gb124]? = some (.cells #[.int .i64 t123] 3 (0, 0))) := ⟨h3_⟩
         have n4_ : Aside0 (w49.heap[gb127]? = some (.cells #[.int .i64 ((rd_T28 l0_3 (ji6)).f0), .int .i64 ((rd_T28 l0_3 (ji6)).f1)] 28 (0, 0))) := ⟨h4_⟩
         have n5_ : Aside0 (w49.heap[gb128]? = some (.cells #[.int .i64 ((rd_T28 l0_3 (ji9)).f0), .int .i64 ((rd_T28 l0_3 (ji9)).f1)] 28 (0, 0))) := ⟨h5_⟩
         have n6_ : Aside0 (w49.heap[gb131]? = some (.cells #[.int .i64 0, .int .i64 0] 28 (0, 0))) := ⟨h6_⟩
         have n7_ : Aside0 (w49.heap[gb132]? = some (.cells #[.int .i64 0, .int .i64 0] 28 (0, 0))) := ⟨h7_⟩
         have n8_ : Aside0 (w.heap.size ≤ gb131) := ⟨h8_⟩
         have n9_ : Aside0 (w.heap.size ≤ gb131) := ⟨h9_⟩
         have n10_ : Aside0 (gb117 ≠ gb131) := ⟨h10_⟩
         have n11_ : Aside0 (gb131 ≠ gb117) := ⟨h11_⟩
         have n12_ : Aside0 (gb118 ≠ gb131) := ⟨h12_⟩
         have n13_ : Aside0 (gb131 ≠ gb118) := ⟨h13_⟩
         have n14_ : Aside0 (gb121 ≠ gb131) := ⟨h14_⟩
         have n15_ : Aside0 (gb131 ≠ gb121) := ⟨h15_⟩
         have n16_ : Aside0 (gb124 ≠ gb131) := ⟨h16_⟩
         have n17_ : Aside0 (gb131 ≠ gb124) := ⟨h17_⟩
         have n18_ : Aside0 (gb127 ≠ gb131) := ⟨h18_⟩
         have n19_ : Aside0 (gb131 ≠ gb127) := ⟨h19_⟩
         have n20_ : Aside0 (gb128 ≠ gb131) := ⟨h20_⟩
         have n21_ : Aside0 (gb131 ≠ gb128) := ⟨h21_⟩
         have n22_ : Aside0 (gb132 ≠ gb131) := ⟨h22_⟩
         have n23_ : Aside0 (gb131 ≠ gb132) := ⟨h23_⟩
         have n24_ : Aside0 (w.heap.size ≤ gb132) := ⟨h24_⟩
         have n25_ : Aside0 (w.heap.size ≤ gb132) := ⟨h25_⟩
         have n26_ : Aside0 (gb117 ≠ gb132) := ⟨h26_⟩
         have n27_ : Aside0 (gb132 ≠ gb117) := ⟨h27_⟩
         have n28_ : Aside0 (gb118 ≠ gb132) := ⟨h28_⟩
         have n29_ : Aside0 (gb132 ≠ gb118) := ⟨h29_⟩
         have n30_ : Aside0 (gb121 ≠ gb132) := ⟨h30_⟩
         have n31_ : Aside0 (gb132 ≠ gb121) := ⟨h31_⟩
         have n32_ : Aside0 (gb124 ≠ gb132) := ⟨h32_⟩
         have n33_ : Aside0 (gb132 ≠ gb124) := ⟨h33_⟩
         have n34_ : Aside0 (gb127 ≠ gb132) := ⟨h34_⟩
         have n35_ : Aside0 (gb132 ≠ gb127) := ⟨h35_⟩
         have n36_ : Aside0 (gb128 ≠ gb132) := ⟨h36_⟩
         have n37_ : Aside0 (gb132 ≠ gb128) := ⟨h37_⟩
         have n38_ : Aside0 (Below w.heap.size w w49) := ⟨h38_⟩
         clear BK117
         clear BK118
         clear BK121
         clear BK124
         clear BK127
         clear BK128
         clear HB
         clear h0_ h1_ h2_ h3_ h4_ h5_ h6_ h7_ h8_ h9_ h10_ h11_ h12_ h13_ h14_ h15_ h16_ h17_ h18_ h19_ h20_ h21_ h22_ h23_ h24_ h25_ h26_ h27_ h28_ h29_ h30_ h31_ h32_ h33_ h34_ h35_ h36_ h37_ h38_
         have BK117 := n0_
         have BK118 := n1_
         have BK121 := n2_
         have BK124 := n3_
         have BK127 := n4_
         have BK128 := n5_
         have BK131 := n6_
         have BK132 := n7_
         have GW131 := n8_
         have GE131 := n9_
         have NB117_131 := n10_
         have NB131_117 := n11_
         have NB118_131 := n12_
         have NB131_118 := n13_
         have NB121_131 := n14_
         have NB131_121 := n15_
         have NB124_131 := n16_
         have NB131_124 := n17_
         have NB127_131 := n18_
         have NB131_127 := n19_
         have NB128_131 := n20_
         have NB131_128 := n21_
         have NB132_131 := n22_
         have NB131_132 := n23_
         have GW132 := n24_
         have GE132 := n25_
         have NB117_132 := n26_
         have NB132_117 := n27_
         have NB118_132 := n28_
         have NB132_118 := n29_
         have NB121_132 := n30_
         have NB132_121 := n31_
         have NB124_132 := n32_
         have NB132_124 := n33_
         have NB127_132 := n34_
         have NB132_127 := n35_
         have NB128_132 := n36_
         have NB132_128 := n37_
         have HB := n38_
         clear n0_ n1_ n2_ n3_ n4_ n5_ n6_ n7_ n8_ n9_ n10_ n11_ n12_ n13_ n14_ n15_ n16_ n17_ n18_ n19_ n20_ n21_ n22_ n23_ n24_ n25_ n26_ n27_ n28_ n29_ n30_ n31_ n32_ n33_ n34_ n35_ n36_ n37_ n38_
         have hHeld : w49.cell? ⟨gb117, 0, none⟩ = some (.int .i64 a0_0) ∧ w49.cell? ⟨gb117, 1, none⟩ = some (.int .i64 a0_1) ∧ w49.cell? ⟨gb117, 2, none⟩ = some (.int .i64 a0_2) ∧ w49.cell? ⟨gb117, 3, none⟩ = some (.slice (some ad125) l0_3.length c0_3) ∧ w49.cell? (ad125.add (((ji12)).toNat * 2)) = some (.int .i64 ((rd_T28 l0_3 (ji12)).f0)) ∧ w49.cell? ⟨(ad125.add (((ji12)).toNat * 2)).block, (ad125.add (((ji12)).toNat * 2)).off + 1, none⟩ = some (.int .i64 ((rd_T28 l0_3 (ji12)).f1)) ∧ w49.cell? (ad125.add (((ji15)).toNat * 2)) = some (.int .i64 ((rd_T28 l0_3 (ji15)).f0)) ∧ w49.cell? ⟨(ad125.add (((ji15)).toNat * 2)).block, (ad125.add (((ji15)).toNat * 2)).off + 1, none⟩ = some (.int .i64 ((rd_T28 l0_3 (ji15)).f1)) := hS_
         refine norm_ (a' := ?_) ?_ ?_
         rotate_left
         ·simp only [putAll, Act.put, sA, sB, sC]
          rfl
         refine one_ (i := 25) (N := none) (bs 27 67108863) rfl rfl (one_of HT_.out (by kernel_rfl)) (by decide) (fun K hK => ?_)
         have hs50 : w49.cell? ⟨gb131, 0, none⟩ = some (.int .i64 0) := (blk_cell BK131.out 0).trans rfl
         have hfs50 := blk_frozen BK131.out 0
         have hns50_0 := NB117_131.out
         have hns50_1 := NB118_131.out
         have hns50_2 := NB121_131.out
         have hns50_3 := NB124_131.out
         have hns50_4 := NB127_131.out
         have hns50_5 := NB128_131.out
         have hns50_7 := NB132_131.out
         have hms50_0 := NB131_117.out
         have hms50_1 := NB131_118.out
         have hms50_2 := NB131_121.out
         have hms50_3 := NB131_124.out
         have hms50_4 := NB131_127.out
         have hms50_5 := NB131_128.out
         have hms50_7 := NB131_132.out
         have hs51 : w49.cell? ⟨gb131, 1, none⟩ = some (.int .i64 0) := (blk_cell BK131.out 1).trans rfl
         have hfs51 := blk_frozen BK131.out 1
         have hns51_0 := NB117_131.out
         have hns51_1 := NB118_131.out
         have hns51_2 := NB121_131.out
         have hns51_3 := NB124_131.out
         have hns51_4 := NB127_131.out
         have hns51_5 := NB128_131.out
         have hns51_7 := NB132_131.out
         have hms51_0 := NB131_117.out
         have hms51_1 := NB131_118.out
         have hms51_2 := NB131_121.out
         have hms51_3 := NB131_124.out
         have hms51_4 := NB131_127.out
         have hms51_5 := NB131_128.out
         have hms51_7 := NB131_132.out
         refine skip_ (w1 := ?_) (by rfl) rfl ?_ ?_
         rotate_left
         ·go_simp
          rfl
         refine hK.out _ _ ⟨((cell_far (p := ⟨gb131, _, none⟩) NB117_131.out _).trans (((cell_far (p := ⟨gb131, _, none⟩) NB117_131.out _).trans (hHeld.1)))), ((cell_far (p := ⟨gb131, _, none⟩) NB117_131.out _).trans (((cell_far (p := ⟨gb131, _, none⟩) NB117_131.out _).trans (hHeld.2.1)))), ((cell_far (p := ⟨gb131, _, none⟩) NB117_131.out _).trans (((cell_far (p := ⟨gb131, _, none⟩) NB117_131.out _).trans (hHeld.2.2.1)))), ((cell_far (p := ⟨gb131, _, none⟩) NB117_131.out _).trans (((cell_far (p := ⟨gb131, _, none⟩) NB117_131.out _).trans (hHeld.2.2.2.1)))), ((cell_far (p := ⟨gb131, _, none⟩) (by first | exact Nat.ne_of_lt (Nat.lt_of_lt_of_le (by have := World.block_lt_of_cell? _ _ hw129_0; first | rwa [add_block] at this | exact this) GW131.out) | (rw [add_block]; exact Nat.ne_of_lt (Nat.lt_of_lt_of_le (by have := World.block_lt_of_cell? _ _ hw129_0; first | rwa [add_block] at this | exact this) GW131.out)) | (show (Addr.add _ _).block ≠ _; rw [add_block]; exact Nat.ne_of_lt (Nat.lt_of_lt_of_le (by have := World.block_lt_of_cell? _ _ hw129_0; first | rwa [add_block] at this | exact this) GW131.out)) | (dsimp only; exact Nat.ne_of_lt (Nat.lt_of_lt_of_le (by have := World.block_lt_of_cell? _ _ hw129_0; first | rwa [add_block] at this | exact this) GW131.out))) _).trans (((cell_far (p := ⟨gb131, _, none⟩) (by first | exact Nat.ne_of_lt (Nat.lt_of_lt_of_le (by have := World.block_lt_of_cell? _ _ hw129_0; first | rwa [add_block] at this | exact this) GW131.out) | (rw [add_block]; exact Nat.ne_of_lt (Nat.lt_of_lt_of_le (by have := World.block_lt_of_cell? _ _ hw129_0; first | rwa [add_block] at this | exact this) GW131.out)) | (show (Addr.add _ _).block ≠ _; rw [add_block]; exact Nat.ne_of_lt (Nat.lt_of_lt_of_le (by have := World.block_lt_of_cell? _ _ hw129_0; first | rwa [add_block] at this | exact this) GW131.out)) | (dsimp only; exact Nat.ne_of_lt (Nat.lt_of_lt_of_le (by have := World.block_lt_of_cell? _ _ hw129_0; first | rwa [add_block] at this | exact this) GW131.out))) _).trans (hHeld.2.2.2.2.1)))), ((cell_far (p := ⟨gb131, _, none⟩) (by first | exact Nat.ne_of_lt (Nat.lt_of_lt_of_le (by have := World.block_lt_of_cell? _ _ hw129_1; first | rwa [add_block] at this | exact this) GW131.out) | (rw [add_block]; exact Nat.ne_of_lt (Nat.lt_of_lt_of_le (by have := World.block_lt_of_cell? _ _ hw129_1; first | rwa [add_block] at this | exact this) GW131.out)) | (show (Addr.add _ _).block ≠ _; rw [add_block]; exact Nat.ne_of_lt (Nat.lt_of_lt_of_le (by have := World.block_lt_of_cell? _ _ hw129_1; first | rwa [add_block] at this | exact this) GW131.out)) | (dsimp only; exact Nat.ne_of_lt (Nat.lt_of_lt_of_le (by have := World.block_lt_of_cell? _ _ hw129_1; first | rwa [add_block] at this | exact this) GW131.out))) _).trans (((cell_far (p := ⟨gb131, _, none⟩) (by first | exact Nat.ne_of_lt (Nat.lt_of_lt_of_le (by have := World.block_lt_of_cell? _ _ hw129_1; first | rwa [add_block] at this | exact this) GW131.out) | (rw [add_block]; exact Nat.ne_of_lt (Nat.lt_of_lt_of_le (by have := World.block_lt_of_cell? _ _ hw129_1; first | rwa [add_block] at this | exact this) GW131.out)) | (show (Addr.add _ _).block ≠ _; rw [add_block]; exact Nat.ne_of_lt (Nat.lt_of_lt_of_le (by have := World.block_lt_of_cell? _ _ hw129_1; first | rwa [add_block] at this | exact this) GW131.out)) | (dsimp only; exact Nat.ne_of_lt (Nat.lt_of_lt_of_le (by have := World.block_lt_of_cell? _ _ hw129_1; first | rwa [add_block] at this | exact this) GW131.out))) _).trans (hHeld.2.2.2.2.2.1)))), ((cell_far (p := ⟨gb131, _, none⟩) (by first | exact Nat.ne_of_lt (Nat.lt_of_lt_of_le (by have := World.block_lt_of_cell? _ _ hw130_0; first | rwa [add_block] at this | exact this) GW131.out) | (rw [add_block]; exact Nat.ne_of_lt (Nat.lt_of_lt_of_le (by have := World.block_lt_of_cell? _ _ hw130_0; first | rwa [add_block] at this | exact this) GW131.out)) | (show (Addr.add _ _).block ≠ _; rw [add_block]; exact Nat.ne_of_lt (Nat.lt_of_lt_of_le (by have := World.block_lt_of_cell? _ _ hw130_0; first | rwa [add_block] at this | exact this) GW131.out)) | (dsimp only; exact Nat.ne_of_lt (Nat.lt_of_lt_of_le (by have := World.block_lt_of_cell? _ _ hw130_0; first | rwa [add_block] at this | exact this) GW131.out))) _).trans (((cell_far (p := ⟨gb131, _, none⟩) (by first | exact Nat.ne_of_lt (Nat.lt_of_lt_of_le (by have := World.block_lt_of_cell? _ _ hw130_0; first | rwa [add_block] at this | exact this) GW131.out) | (rw [add_block]; exact Nat.ne_of_lt (Nat.lt_of_lt_of_le (by have := World.block_lt_of_cell? _ _ hw130_0; first | rwa [add_block] at this | exact this) GW131.out)) | (show (Addr.add _ _).block ≠ _; rw [add_block]; exact Nat.ne_of_lt (Nat.lt_of_lt_of_le (by have := World.block_lt_of_cell? _ _ hw130_0; first | rwa [add_block] at this | exact this) GW131.out)) | (dsimp only; exact Nat.ne_of_lt (Nat.lt_of_lt_of_le (by have := World.block_lt_of_cell? _ _ hw130_0; first | rwa [add_block] at this | exact this) GW131.out))) _).trans (hHeld.2.2.2.2.2.2.1)))), ((cell_far (p := ⟨gb131, _, none⟩) (by first | exact Nat.ne_of_lt (Nat.lt_of_lt_of_le (by have := World.block_lt_of_cell? _ _ hw130_1; first | rwa [add_block] at this | exact this) GW131.out) | (rw [add_block]; exact Nat.ne_of_lt (Nat.lt_of_lt_of_le (by have := World.block_lt_of_cell? _ _ hw130_1; first | rwa [add_block] at this | exact this) GW131.out)) | (show (Addr.add _ _).block ≠ _; rw [add_block]; exact Nat.ne_of_lt (Nat.lt_of_lt_of_le (by have := World.block_lt_of_cell? _ _ hw130_1; first | rwa [add_block] at this | exact this) GW131.out)) | (dsimp only; exact Nat.ne_of_lt (Nat.lt_of_lt_of_le (by have := World.block_lt_of_cell? _ _ hw130_1; first | rwa [add_block] at this | exact this) GW131.out))) _).trans (((cell_far (p := ⟨gb131, _, none⟩) (by first | exact Nat.ne_of_lt (Nat.lt_of_lt_of_le (by have := World.block_lt_of_cell? _ _ hw130_1; first | rwa [add_block] at this | exact this) GW131.out) | (rw [add_block]; exact Nat.ne_of_lt (Nat.lt_of_lt_of_le (by have := World.block_lt_of_cell? _ _ hw130_1; first | rwa [add_block] at this | exact this) GW131.out)) | (show (Addr.add _ _).block ≠ _; rw [add_block]; exact Nat.ne_of_lt (Nat.lt_of_lt_of_le (by have := World.block_lt_of_cell? _ _ hw130_1; first | rwa [add_block] at this | exact this) GW131.out)) | (dsimp only; exact Nat.ne_of_lt (Nat.lt_of_lt_of_le (by have := World.block_lt_of_cell? _ _ hw130_1; first | rwa [add_block] at this | exact this) GW131.out))) _).trans (hHeld.2.2.2.2.2.2.2))))⟩ (fun hHeld => ?_)
         clear hK K
         refine one_ (i := 26) (N := none) (bs 27 134217727) rfl rfl (one_of HT_.out (by kernel_rfl)) (by decide) (fun K hK => ?_)
         have hs52 : w49.cell? ⟨gb132, 0, none⟩ = some (.int .i64 0) := (blk_cell BK132.out 0).trans rfl
         have hfs52 := blk_frozen BK132.out 0
         have hns52_0 := NB117_132.out
         have hns52_1 := NB118_132.out
         have hns52_2 := NB121_132.out
         have hns52_3 := NB124_132.out
         have hns52_4 := NB127_132.out
         have hns52_5 := NB128_132.out
         have hns52_6 := NB131_132.out
         have hms52_0 := NB132_117.out
         have hms52_1 := NB132_118.out
         have hms52_2 := NB132_121.out
         have hms52_3 := NB132_124.out
         have hms52_4 := NB132_127.out
         have hms52_5 := NB132_128.out
         have hms52_6 := NB132_131.out
         have hs53 : w49.cell? ⟨gb132, 1, none⟩ = some (.int .i64 0) := (blk_cell BK132.out 1).trans rfl
         have hfs53 := blk_frozen BK132.out 1
         have hns53_0 := NB117_132.out
         have hns53_1 := NB118_132.out
         have hns53_2 := NB121_132.out
         have hns53_3 := NB124_132.out
         have hns53_4 := NB127_132.out
         have hns53_5 := NB128_132.out
         have hns53_6 := NB131_132.out
         have hms53_0 := NB132_117.out
         have hms53_1 := NB132_118.out
         have hms53_2 := NB132_121.out
         have hms53_3 := NB132_124.out
         have hms53_4 := NB132_127.out
         have hms53_5 := NB132_128.out
         have hms53_6 := NB132_131.out
         refine skip_ (w1 := ?_) (by rfl) rfl ?_ ?_
         rotate_left
         ·go_simp
          rfl
         refine hK.out _ _ ⟨((cell_far (p := ⟨gb132, _, none⟩) NB117_132.out _).trans (((cell_far (p := ⟨gb132, _, none⟩) NB117_132.out _).trans (hHeld.1)))), ((cell_far (p := ⟨gb132, _, none⟩) NB117_132.out _).trans (((cell_far (p := ⟨gb132, _, none⟩) NB117_132.out _).trans (hHeld.2.1)))), ((cell_far (p := ⟨gb132, _, none⟩) NB117_132.out _).trans (((cell_far (p := ⟨gb132, _, none⟩) NB117_132.out _).trans (hHeld.2.2.1)))), ((cell_far (p := ⟨gb132, _, none⟩) NB117_132.out _).trans (((cell_far (p := ⟨gb132, _, none⟩) NB117_132.out _).trans (hHeld.2.2.2.1)))), ((cell_far (p := ⟨gb132, _, none⟩) (by first | exact Nat.ne_of_lt (Nat.lt_of_lt_of_le (by have := World.block_lt_of_cell? _ _ hw129_0; first | rwa [add_block] at this | exact this) GW132.out) | (rw [add_block]; exact Nat.ne_of_lt (Nat.lt_of_lt_of_le (by have := World.block_lt_of_cell? _ _ hw129_0; first | rwa [add_block] at this | exact this) GW132.out)) | (show (Addr.add _ _).block ≠ _; rw [add_block]; exact Nat.ne_of_lt (Nat.lt_of_lt_of_le (by have := World.block_lt_of_cell? _ _ hw129_0; first | rwa [add_block] at this | exact this) GW132.out)) | (dsimp only; exact Nat.ne_of_lt (Nat.lt_of_lt_of_le (by have := World.block_lt_of_cell? _ _ hw129_0; first | rwa [add_block] at this | exact this) GW132.out))) _).trans (((cell_far (p := ⟨gb132, _, none⟩) (by first | exact Nat.ne_of_lt (Nat.lt_of_lt_of_le (by have := World.block_lt_of_cell? _ _ hw129_0; first | rwa [add_block] at this | exact this) GW132.out) | (rw [add_block]; exact Nat.ne_of_lt (Nat.lt_of_lt_of_le (by have := World.block_lt_of_cell? _ _ hw129_0; first | rwa [add_block] at this | exact this) GW132.out)) | (show (Addr.add _ _).block ≠ _; rw [add_block]; exact Nat.ne_of_lt (Nat.lt_of_lt_of_le (by have := World.block_lt_of_cell? _ _ hw129_0; first | rwa [add_block] at this | exact this) GW132.out)) | (dsimp only; exact Nat.ne_of_lt (Nat.lt_of_lt_of_le (by have := World.block_lt_of_cell? _ _ hw129_0; first | rwa [add_block] at this | exact this) GW132.out))) _).trans (hHeld.2.2.2.2.1)))), ((cell_far (p := ⟨gb132, _, none⟩) (by first | exact Nat.ne_of_lt (Nat.lt_of_lt_of_le (by have := World.block_lt_of_cell? _ _ hw129_1; first | rwa [add_block] at this | exact this) GW132.out) | (rw [add_block]; exact Nat.ne_of_lt (Nat.lt_of_lt_of_le (by have := World.block_lt_of_cell? _ _ hw129_1; first | rwa [add_block] at this | exact this) GW132.out)) | (show (Addr.add _ _).block ≠ _; rw [add_block]; exact Nat.ne_of_lt (Nat.lt_of_lt_of_le (by have := World.block_lt_of_cell? _ _ hw129_1; first | rwa [add_block] at this | exact this) GW132.out)) | (dsimp only; exact Nat.ne_of_lt (Nat.lt_of_lt_of_le (by have := World.block_lt_of_cell? _ _ hw129_1; first | rwa [add_block] at this | exact this) GW132.out))) _).trans (((cell_far (p := ⟨gb132, _, none⟩) (by first | exact Nat.ne_of_lt (Nat.lt_of_lt_of_le (by have := World.block_lt_of_cell? _ _ hw129_1; first | rwa [add_block] at this | exact this) GW132.out) | (rw [add_block]; exact Nat.ne_of_lt (Nat.lt_of_lt_of_le (by have := World.block_lt_of_cell? _ _ hw129_1; first | rwa [add_block] at this | exact this) GW132.out)) | (show (Addr.add _ _).block ≠ _; rw [add_block]; exact Nat.ne_of_lt (Nat.lt_of_lt_of_le (by have := World.block_lt_of_cell? _ _ hw129_1; first | rwa [add_block] at this | exact this) GW132.out)) | (dsimp only; exact Nat.ne_of_lt (Nat.lt_of_lt_of_le (by have := World.block_lt_of_cell? _ _ hw129_1; first | rwa [add_block] at this | exact this) GW132.out))) _).trans (hHeld.2.2.2.2.2.1)))), ((cell_far (p := ⟨gb132, _, none⟩) (by first | exact Nat.ne_of_lt (Nat.lt_of_lt_of_le (by have := World.block_lt_of_cell? _ _ hw130_0; first | rwa [add_block] at this | exact this) GW132.out) | (rw [add_block]; exact Nat.ne_of_lt (Nat.lt_of_lt_of_le (by have := World.block_lt_of_cell? _ _ hw130_0; first | rwa [add_block] at this | exact this) GW132.out)) | (show (Addr.add _ _).block ≠ _; rw [add_block]; exact Nat.ne_of_lt (Nat.lt_of_lt_of_le (by have := World.block_lt_of_cell? _ _ hw130_0; first | rwa [add_block] at this | exact this) GW132.out)) | (dsimp only; exact Nat.ne_of_lt (Nat.lt_of_lt_of_le (by have := World.block_lt_of_cell? _ _ hw130_0; first | rwa [add_block] at this | exact this) GW132.out))) _).trans (((cell_far (p := ⟨gb132, _, none⟩) (by first | exact Nat.ne_of_lt (Nat.lt_of_lt_of_le (by have := World.block_lt_of_cell? _ _ hw130_0; first | rwa [add_block] at this | exact this) GW132.out) | (rw [add_block]; exact Nat.ne_of_lt (Nat.lt_of_lt_of_le (by have := World.block_lt_of_cell? _ _ hw130_0; first | rwa [add_block] at this | exact this) GW132.out)) | (show (Addr.add _ _).block ≠ _; rw [add_block]; exact Nat.ne_of_lt (Nat.lt_of_lt_of_le (by have := World.block_lt_of_cell? _ _ hw130_0; first | rwa [add_block] at this | exact this) GW132.out)) | (dsimp only; exact Nat.ne_of_lt (Nat.lt_of_lt_of_le (by have := World.block_lt_of_cell? _ _ hw130_0; first | rwa [add_block] at this | exact this) GW132.out))) _).trans (hHeld.2.2.2.2.2.2.1)))), ((cell_far (p := ⟨gb132, _, none⟩) (by first | exact Nat.ne_of_lt (Nat.lt_of_lt_of_le (by have := World.block_lt_of_cell? _ _ hw130_1; first | rwa [add_block] at this | exact this) GW132.out) | (rw [add_block]; exact Nat.ne_of_lt (Nat.lt_of_lt_of_le (by have := World.block_lt_of_cell? _ _ hw130_1; first | rwa [add_block] at this | exact this) GW132.out)) | (show (Addr.add _ _).block ≠ _; rw [add_block]; exact Nat.ne_of_lt (Nat.lt_of_lt_of_le (by have := World.block_lt_of_cell? _ _ hw130_1; first | rwa [add_block] at this | exact this) GW132.out)) | (dsimp only; exact Nat.ne_of_lt (Nat.lt_of_lt_of_le (by have := World.block_lt_of_cell? _ _ hw130_1; first | rwa [add_block] at this | exact this) GW132.out))) _).trans (((cell_far (p := ⟨gb132, _, none⟩) (by first | exact Nat.ne_of_lt (Nat.lt_of_lt_of_le (by have := World.block_lt_of_cell? _ _ hw130_1; first | rwa [add_block] at this | exact this) GW132.out) | (rw [add_block]; exact Nat.ne_of_lt (Nat.lt_of_lt_of_le (by have := World.block_lt_of_cell? _ _ hw130_1; first | rwa [add_block] at this | exact this) GW132.out)) | (show (Addr.add _ _).block ≠ _; rw [add_block]; exact Nat.ne_of_lt (Nat.lt_of_lt_of_le (by have := World.block_lt_of_cell? _ _ hw130_1; first | rwa [add_block] at this | exact this) GW132.out)) | (dsimp only; exact Nat.ne_of_lt (Nat.lt_of_lt_of_le (by have := World.block_lt_of_cell? _ _ hw130_1; first | rwa [add_block] at this | exact this) GW132.out))) _).trans (hHeld.2.2.2.2.2.2.2))))⟩ (fun hHeld => ?_)
         clear hK K
         refine done_ (done_of HT_.out (by kernel_rfl)) ?_
         have hnb54 := NB117_127.out
         have hnc54 := NB127_117.out
         have hnb55 := NB117_128.out
         have hnc55 := NB128_117.out
         have hnb56 := NB117_131.out
         have hnc56 := NB131_117.out
         have hnb57 := NB117_132.out
         have hnc57 := NB132_117.out
         obtain ⟨hcz58_0, hcz58_1, hcz58_2, hcz58_3, hfz58_0, hfz58_1, hfz58_2, hfz58_3⟩ := zq4 BK117
         try go_wp2_with (first | ((with_reducible refine gate_dst (N := 15) rfl ?_); refine box_event ?hg (N := 15) ?hd (cs := #[.int .i64 0]) (t := 3) ?hr ?_; (case hd => rfl); (case hg => rfl); (case hr => first | (go_simp; done) | (go_simp; rfl)); intro gb133 hg w59 hbox hb; have n0_ := Aside0.mk (blk_below (g := gb117) (o := .cells #[.int .i64 a0_0, .int .i64 a0_1, .int .i64 a0_2, .slice (some ad125) l0_3.length c0_3] 24 (0, 0)) (by (with_reducible repeat (first | refine blk_drewN ?_ _ | refine blk_drew ?_ | refine blk_alloc ?_ _)); refine blk_far ?_ NB117_132.out _; (with_reducible repeat (first | refine blk_drewN ?_ _ | refine blk_drew ?_ | refine blk_alloc ?_ _)); refine blk_far ?_ NB117_132.out _; (with_reducible repeat (first | refine blk_drewN ?_ _ | refine blk_drew ?_ | refine blk_alloc ?_ _)); refine blk_far ?_ NB117_131.out _; (with_reducible repeat (first | refine blk_drewN ?_ _ | refine blk_drew ?_ | refine blk_alloc ?_ _)); refine blk_far ?_ NB117_131.out _; (with_reducible repeat (first | refine blk_drewN ?_ _ | refine blk_drew ?_ | refine blk_alloc ?_ _)); exact BK117.out) hb); have n1_ := Aside0.mk (blk_below (g := gb118) (o := .cells #[.int .i64 0, .int .i64 0] 28 (0, 0)) (by (with_reducible repeat (first | refine blk_drewN ?_ _ | refine blk_drew ?_ | refine blk_alloc ?_ _)); refine blk_far ?_ NB118_132.out _; (with_reducible repeat (first | refine blk_drewN ?_ _ | refine blk_drew ?_ | refine blk_alloc ?_ _)); refine blk_far ?_ NB118_132.out _; (with_reducible repeat (first | refine blk_drewN ?_ _ | refine blk_drew ?_ | refine blk_alloc ?_ _)); refine blk_far ?_ NB118_131.out _; (with_reducible repeat (first | refine blk_drewN ?_ _ | refine blk_drew ?_ | refine blk_alloc ?_ _)); refine blk_far ?_ NB118_131.out _; (with_reducible repeat (first | refine blk_drewN ?_ _ | refine blk_drew ?_ | refine blk_alloc ?_ _)); exact BK118.out) hb); have n2_ := Aside0.mk (blk_below (g := gb121) (o := .cells #[.int .i64 t120] 3 (0, 0)) (by (with_reducible repeat (first | refine blk_drewN ?_ _ | refine blk_drew ?_ | refine blk_alloc ?_ _)); refine blk_far ?_ NB121_132.out _; (with_reducible repeat (first | refine blk_drewN ?_ _ | refine blk_drew ?_ | refine blk_alloc ?_ _)); refine blk_far ?_ NB121_132.out _; (with_reducible repeat (first | refine blk_drewN ?_ _ | refine blk_drew ?_ | refine blk_alloc ?_ _)); refine blk_far ?_ NB121_131.out _; (with_reducible repeat (first | refine blk_drewN ?_ _ | refine blk_drew ?_ | refine blk_alloc ?_ _)); refine blk_far ?_ NB121_131.out _; (with_reducible repeat (first | refine blk_drewN ?_ _ | refine blk_drew ?_ | refine blk_alloc ?_ _)); exact BK121.out) hb); have n3_ := Aside0.mk (blk_below (g := gb124) (o := .cells #[.int .i64 t123] 3 (0, 0)) (by (with_reducible repeat (first | refine blk_drewN ?_ _ | refine blk_drew ?_ | refine blk_alloc ?_ _)); refine blk_far ?_ NB124_132.out _; (with_reducible repeat (first | refine blk_drewN ?_ _ | refine blk_drew ?_ | refine blk_alloc ?_ _)); refine blk_far ?_ NB124_132.out _; (with_reducible repeat (first | refine blk_drewN ?_ _ | refine blk_drew ?_ | refine blk_alloc ?_ _)); refine blk_far ?_ NB124_131.out _; (with_reducible repeat (first | refine blk_drewN ?_ _ | refine blk_drew ?_ | refine blk_alloc ?_ _)); refine blk_far ?_ NB124_131.out _; (with_reducible repeat (first | refine blk_drewN ?_ _ | refine blk_drew ?_ | refine blk_alloc ?_ _)); exact BK124.out) hb); have n4_ := Aside0.mk (blk_below (g := gb127) (o := .cells #[.int .i64 ((rd_T28 l0_3 (ji6)).f0), .int .i64 ((rd_T28 l0_3 (ji6)).f1)] 28 (0, 0)) (by (with_reducible repeat (first | refine blk_drewN ?_ _ | refine blk_drew ?_ | refine blk_alloc ?_ _)); refine blk_far ?_ NB127_132.out _; (with_reducible repeat (first | refine blk_drewN ?_ _ | refine blk_drew ?_ | refine blk_alloc ?_ _)); refine blk_far ?_ NB127_132.out _; (with_reducible repeat (first | refine blk_drewN ?_ _ | refine blk_drew ?_ | refine blk_alloc ?_ _)); refine blk_far ?_ NB127_131.out _; (with_reducible repeat (first | refine blk_drewN ?_ _ | refine blk_drew ?_ | refine blk_alloc ?_ _)); refine blk_far ?_ NB127_131.out _; (with_reducible repeat (first | refine blk_drewN ?_ _ | refine blk_drew ?_ | refine blk_alloc ?_ _)); exact BK127.out) hb); have n5_ := Aside0.mk (blk_below (g := gb128) (o := .cells #[.int .i64 ((rd_T28 l0_3 (ji9)).f0), .int .i64 ((rd_T28 l0_3 (ji9)).f1)] 28 (0, 0)) (by (with_reducible repeat (first | refine blk_drewN ?_ _ | refine blk_drew ?_ | refine blk_alloc ?_ _)); refine blk_far ?_ NB128_132.out _; (with_reducible repeat (first | refine blk_drewN ?_ _ | refine blk_drew ?_ | refine blk_alloc ?_ _)); refine blk_far ?_ NB128_132.out _; (with_reducible repeat (first | refine blk_drewN ?_ _ | refine blk_drew ?_ | refine blk_alloc ?_ _)); refine blk_far ?_ NB128_131.out _; (with_reducible repeat (first | refine blk_drewN ?_ _ | refine blk_drew ?_ | refine blk_alloc ?_ _)); refine blk_far ?_ NB128_131.out _; (with_reducible repeat (first | refine blk_drewN ?_ _ | refine blk_drew ?_ | refine blk_alloc ?_ _)); exact BK128.out) hb); have n6_ := Aside0.mk (blk_below (g := gb131) (o := .cells #[.int .i64 ((rd_T28 l0_3 (ji12)).f0), .int .i64 ((rd_T28 l0_3 (ji12)).f1)] 28 (0, 0)) (by (with_reducible repeat (first | refine blk_drewN ?_ _ | refine blk_drew ?_ | refine blk_alloc ?_ _)); refine blk_far ?_ NB131_132.out _; (with_reducible repeat (first | refine blk_drewN ?_ _ | refine blk_drew ?_ | refine blk_alloc ?_ _)); refine blk_far ?_ NB131_132.out _; (with_reducible repeat (first | refine blk_drewN ?_ _ | refine blk_drew ?_ | refine blk_alloc ?_ _)); refine blk_put (cs := #[.int .i64 ((rd_T28 l0_3 (ji12)).f0), .int .i64 0]) ?_ 1 _ rfl; (with_reducible repeat (first | refine blk_drewN ?_ _ | refine blk_drew ?_ | refine blk_alloc ?_ _)); refine blk_put (cs := #[.int .i64 0, .int .i64 0]) ?_ 0 _ rfl; (with_reducible repeat (first | refine blk_drewN ?_ _ | refine blk_drew ?_ | refine blk_alloc ?_ _)); exact BK131.out) hb); have n7_ := Aside0.mk (blk_below (g := gb132) (o := .cells #[.int .i64 ((rd_T28 l0_3 (ji15)).f0), .int .i64 ((rd_T28 l0_3 (ji15)).f1)] 28 (0, 0)) (by (with_reducible repeat (first | refine blk_drewN ?_ _ | refine blk_drew ?_ | refine blk_alloc ?_ _)); refine blk_put (cs := #[.int .i64 ((rd_T28 l0_3 (ji15)).f0), .int .i64 0]) ?_ 1 _ rfl; (with_reducible repeat (first | refine blk_drewN ?_ _ | refine blk_drew ?_ | refine blk_alloc ?_ _)); refine blk_put (cs := #[.int .i64 0, .int .i64 0]) ?_ 0 _ rfl; (with_reducible repeat (first | refine blk_drewN ?_ _ | refine blk_drew ?_ | refine blk_alloc ?_ _)); refine blk_far ?_ NB132_131.out _; (with_reducible repeat (first | refine blk_drewN ?_ _ | refine blk_drew ?_ | refine blk_alloc ?_ _)); refine blk_far ?_ NB132_131.out _; (with_reducible repeat (first | refine blk_drewN ?_ _ | refine blk_drew ?_ | refine blk_alloc ?_ _)); exact BK132.out) hb); have n8_ := Aside0.mk (below_step (by repeat (first | (with_reducible first | exact HB.out | apply below_alloc | apply pw_below_drewN | apply below_drew1 | refine below_set ?_ GE131.out | refine below_set ?_ GE132.out) | exact HB.out)) hb); have n9_ := Aside0.mk (hbox); have n10_ := Aside0.mk ((by rw [hg]; exact (below_size (by repeat (first | (with_reducible first | exact HB.out | apply below_alloc | apply pw_below_drewN | apply below_drew1 | refine below_set ?_ GE131.out | refine below_set ?_ GE132.out) | exact HB.out))) : w.heap.size ≤ gb133)); have n11_ := Aside0.mk ((by rw [hg]; exact (below_size (by repeat (first | (with_reducible first | exact HB.out | apply below_alloc | apply pw_below_drewN | apply below_drew1 | refine below_set ?_ GE131.out | refine below_set ?_ GE132.out) | exact HB.out))) : w.heap.size ≤ gb133)); have n12_ := Aside0.mk ((by rw [hg]; exact Nat.ne_of_lt (blk_lt (g := gb117) (o := .cells #[.int .i64 a0_0, .int .i64 a0_1, .int .i64 a0_2, .slice (some ad125) l0_3.length c0_3] 24 (0, 0)) (by (with_reducible repeat (first | refine blk_drewN ?_ _ | refine blk_drew ?_ | refine blk_alloc ?_ _)); refine blk_far ?_ NB117_132.out _; (with_reducible repeat (first | refine blk_drewN ?_ _ | refine blk_drew ?_ | refine blk_alloc ?_ _)); refine blk_far ?_ NB117_132.out _; (with_reducible repeat (first | refine blk_drewN ?_ _ | refine blk_drew ?_ | refine blk_alloc ?_ _)); refine blk_far ?_ NB117_131.out _; (with_reducible repeat (first | refine blk_drewN ?_ _ | refine blk_drew ?_ | refine blk_alloc ?_ _)); refine blk_far ?_ NB117_131.out _; (with_reducible repeat (first | refine blk_drewN ?_ _ | refine blk_drew ?_ | refine blk_alloc ?_ _)); exact BK117.out)) : gb117 ≠ gb133)); have n13_ := Aside0.mk ((by rw [hg]; exact Nat.ne_of_gt (blk_lt (g := gb117) (o := .cells #[.int .i64 a0_0, .int .i64 a0_1, .int .i64 a0_2, .slice (some ad125) l0_3.length c0_3] 24 (0, 0)) (by (with_reducible repeat (first | refine blk_drewN ?_ _ | refine blk_drew ?_ | refine blk_alloc ?_ _)); refine blk_far ?_ NB117_132.out _; (with_reducible repeat (first | refine blk_drewN ?_ _ | refine blk_drew ?_ | refine blk_alloc ?_ _)); refine blk_far ?_ NB117_132.out _; (with_reducible repeat (first | refine blk_drewN ?_ _ | refine blk_drew ?_ | refine blk_alloc ?_ _)); refine blk_far ?_ NB117_131.out _; (with_reducible repeat (first | refine blk_drewN ?_ _ | refine blk_drew ?_ | refine blk_alloc ?_ _)); refine blk_far ?_ NB117_131.out _; (with_reducible repeat (first | refine blk_drewN ?_ _ | refine blk_drew ?_ | refine blk_alloc ?_ _)); exact BK117.out)) : gb133 ≠ gb117)); have n14_ := Aside0.mk ((by rw [hg]; exact Nat.ne_of_lt (blk_lt (g := gb118) (o := .cells #[.int .i64 0, .int .i64 0] 28 (0, 0)) (by (with_reducible repeat (first | refine blk_drewN ?_ _ | refine blk_drew ?_ | refine blk_alloc ?_ _)); refine blk_far ?_ NB118_132.out _; (with_reducible repeat (first | refine blk_drewN ?_ _ | refine blk_drew ?_ | refine blk_alloc ?_ _)); refine blk_far ?_ NB118_132.out _; (with_reducible repeat (first | refine blk_drewN ?_ _ | refine blk_drew ?_ | refine blk_alloc ?_ _)); refine blk_far ?_ NB118_131.out _; (with_reducible repeat (first | refine blk_drewN ?_ _ | refine blk_drew ?_ | refine blk_alloc ?_ _)); refine blk_far ?_ NB118_131.out _; (with_reducible repeat (first | refine blk_drewN ?_ _ | refine blk_drew ?_ | refine blk_alloc ?_ _)); exact BK118.out)) : gb118 ≠ gb133)); have n15_ := Aside0.mk ((by rw [hg]; exact Nat.ne_of_gt (blk_lt (g := gb118) (o := .cells #[.int .i64 0, .int .i64 0] 28 (0, 0)) (by (with_reducible repeat (first | refine blk_drewN ?_ _ | refine blk_drew ?_ | refine blk_alloc ?_ _)); refine blk_far ?_ NB118_132.out _; (with_reducible repeat (first | refine blk_drewN ?_ _ | refine blk_drew ?_ | refine blk_alloc ?_ _)); refine blk_far ?_ NB118_132.out _; (with_reducible repeat (first | refine blk_drewN ?_ _ | refine blk_drew ?_ | refine blk_alloc ?_ _)); refine blk_far ?_ NB118_131.out _; (with_reducible repeat (first | refine blk_drewN ?_ _ | refine blk_drew ?_ | refine blk_alloc ?_ _)); refine blk_far ?_ NB118_131.out _; (with_reducible repeat (first | refine blk_drewN ?_ _ | refine blk_drew ?_ | refine blk_alloc ?_ _)); exact BK118.out)) : gb133 ≠ gb118)); have n16_ := Aside0.mk ((by rw [hg]; exact Nat.ne_of_lt (blk_lt (g := gb121) (o := .cells #[.int .i64 t120] 3 (0, 0)) (by (with_reducible repeat (first | refine blk_drewN ?_ _ | refine blk_drew ?_ | refine blk_alloc ?_ _)); refine blk_far ?_ NB121_132.out _; (with_reducible repeat (first | refine blk_drewN ?_ _ | refine blk_drew ?_ | refine blk_alloc ?_ _)); refine blk_far ?_ NB121_132.out _; (with_reducible repeat (first | refine blk_drewN ?_ _ | refine blk_drew ?_ | refine blk_alloc ?_ _)); refine blk_far ?_ NB121_131.out _; (with_reducible repeat (first | refine blk_drewN ?_ _ | refine blk_drew ?_ | refine blk_alloc ?_ _)); refine blk_far ?_ NB121_131.out _; (with_reducible repeat (first | refine blk_drewN ?_ _ | refine blk_drew ?_ | refine blk_alloc ?_ _)); exact BK121.out)) : gb121 ≠ gb133)); have n17_ := Aside0.mk ((by rw [hg]; exact Nat.ne_of_gt (blk_lt (g := gb121) (o := .cells #[.int .i64 t120] 3 (0, 0)) (by (with_reducible repeat (first | refine blk_drewN ?_ _ | refine blk_drew ?_ | refine blk_alloc ?_ _)); refine blk_far ?_ NB121_132.out _; (with_reducible repeat (first | refine blk_drewN ?_ _ | refine blk_drew ?_ | refine blk_alloc ?_ _)); refine blk_far ?_ NB121_132.out _; (with_reducible repeat (first | refine blk_drewN ?_ _ | refine blk_drew ?_ | refine blk_alloc ?_ _)); refine blk_far ?_ NB121_131.out _; (with_reducible repeat (first | refine blk_drewN ?_ _ | refine blk_drew ?_ | refine blk_alloc ?_ _)); refine blk_far ?_ NB121_131.out _; (with_reducible repeat (first | refine blk_drewN ?_ _ | refine blk_drew ?_ | refine blk_alloc ?_ _)); exact BK121.out)) : gb133 ≠ gb121)); have n18_ := Aside0.mk ((by rw [hg]; exact Nat.ne_of_lt (blk_lt (g := gb124) (o := .cells #[.int .i64 t123] 3 (0, 0)) (by (with_reducible repeat (first | refine blk_drewN ?_ _ | refine blk_drew ?_ | refine blk_alloc ?_ _)); refine blk_far ?_ NB124_132.out _; (with_reducible repeat (first | refine blk_drewN ?_ _ | refine blk_drew ?_ | refine blk_alloc ?_ _)); refine blk_far ?_ NB124_132.out _; (with_reducible repeat (first | refine blk_drewN ?_ _ | refine blk_drew ?_ | refine blk_alloc ?_ _)); refine blk_far ?_ NB124_131.out _; (with_reducible repeat (first | refine blk_drewN ?_ _ | refine blk_drew ?_ | refine blk_alloc ?_ _)); refine blk_far ?_ NB124_131.out _; (with_reducible repeat (first | refine blk_drewN ?_ _ | refine blk_drew ?_ | refine blk_alloc ?_ _)); exact BK124.out)) : gb124 ≠ gb133)); have n19_ := Aside0.mk ((by rw [hg]; exact Nat.ne_of_gt (blk_lt (g := gb124) (o := .cells #[.int .i64 t123] 3 (0, 0)) (by (with_reducible repeat (first | refine blk_drewN ?_ _ | refine blk_drew ?_ | refine blk_alloc ?_ _)); refine blk_far ?_ NB124_132.out _; (with_reducible repeat (first | refine blk_drewN ?_ _ | refine blk_drew ?_ | refine blk_alloc ?_ _)); refine blk_far ?_ NB124_132.out _; (with_reducible repeat (first | refine blk_drewN ?_ _ | refine blk_drew ?_ | refine blk_alloc ?_ _)); refine blk_far ?_ NB124_131.out _; (with_reducible repeat (first | refine blk_drewN ?_ _ | refine blk_drew ?_ | refine blk_alloc ?_ _)); refine blk_far ?_ NB124_131.out _; (with_reducible repeat (first | refine blk_drewN ?_ _ | refine blk_drew ?_ | refine blk_alloc ?_ _)); exact BK124.out)) : gb133 ≠ gb124)); have n20_ := Aside0.mk ((by rw [hg]; exact Nat.ne_of_lt (blk_lt (g := gb127) (o := .cells #[.int .i64 ((rd_T28 l0_3 (ji6)).f0), .int .i64 ((rd_T28 l0_3 (ji6)).f1)] 28 (0, 0)) (by (with_reducible repeat (first | refine blk_drewN ?_ _ | refine blk_drew ?_ | refine blk_alloc ?_ _)); refine blk_far ?_ NB127_132.out _; (with_reducible repeat (first | refine blk_drewN ?_ _ | refine blk_drew ?_ | refine blk_alloc ?_ _)); refine blk_far ?_ NB127_132.out _; (with_reducible repeat (first | refine blk_drewN ?_ _ | refine blk_drew ?_ | refine blk_alloc ?_ _)); refine blk_far ?_ NB127_131.out _; (with_reducible repeat (first | refine blk_drewN ?_ _ | refine blk_drew ?_ | refine blk_alloc ?_ _)); refine blk_far ?_ NB127_131.out _; (with_reducible repeat (first | refine blk_drewN ?_ _ | refine blk_drew ?_ | refine blk_alloc ?_ _)); exact BK127.out)) : gb127 ≠ gb133)); have n21_ := Aside0.mk ((by rw [hg]; exact Nat.ne_of_gt (blk_lt (g := gb127) (o := .cells #[.int .i64 ((rd_T28 l0_3 (ji6)).f0), .int .i64 ((rd_T28 l0_3 (ji6)).f1)] 28 (0, 0)) (by (with_reducible repeat (first | refine blk_drewN ?_ _ | refine blk_drew ?_ | refine blk_alloc ?_ _)); refine blk_far ?_ NB127_132.out _; (with_reducible repeat (first | refine blk_drewN ?_ _ | refine blk_drew ?_ | refine blk_alloc ?_ _)); refine blk_far ?_ NB127_132.out _; (with_reducible repeat (first | refine blk_drewN ?_ _ | refine blk_drew ?_ | refine blk_alloc ?_ _)); refine blk_far ?_ NB127_131.out _; (with_reducible repeat (first | refine blk_drewN ?_ _ | refine blk_drew ?_ | refine blk_alloc ?_ _)); refine blk_far ?_ NB127_131.out _; (with_reducible repeat (first | refine blk_drewN ?_ _ | refine blk_drew ?_ | refine blk_alloc ?_ _)); exact BK127.out)) : gb133 ≠ gb127)); have n22_ := Aside0.mk ((by rw [hg]; exact Nat.ne_of_lt (blk_lt (g := gb128) (o := .cells #[.int .i64 ((rd_T28 l0_3 (ji9)).f0), .int .i64 ((rd_T28 l0_3 (ji9)).f1)] 28 (0, 0)) (by (with_reducible repeat (first | refine blk_drewN ?_ _ | refine blk_drew ?_ | refine blk_alloc ?_ _)); refine blk_far ?_ NB128_132.out _; (with_reducible repeat (first | refine blk_drewN ?_ _ | refine blk_drew ?_ | refine blk_alloc ?_ _)); refine blk_far ?_ NB128_132.out _; (with_reducible repeat (first | refine blk_drewN ?_ _ | refine blk_drew ?_ | refine blk_alloc ?_ _)); refine blk_far ?_ NB128_131.out _; (with_reducible repeat (first | refine blk_drewN ?_ _ | refine blk_drew ?_ | refine blk_alloc ?_ _)); refine blk_far ?_ NB128_131.out _; (with_reducible repeat (first | refine blk_drewN ?_ _ | refine blk_drew ?_ | refine blk_alloc ?_ _)); exact BK128.out)) : gb128 ≠ gb133)); have n23_ := Aside0.mk ((by rw [hg]; exact Nat.ne_of_gt (blk_lt (g := gb128) (o := .cells #[.int .i64 ((rd_T28 l0_3 (ji9)).f0), .int .i64 ((rd_T28 l0_3 (ji9)).f1)] 28 (0, 0)) (by (with_reducible repeat (first | refine blk_drewN ?_ _ | refine blk_drew ?_ | refine blk_alloc ?_ _)); refine blk_far ?_ NB128_132.out _; (with_reducible repeat (first | refine blk_drewN ?_ _ | refine blk_drew ?_ | refine blk_alloc ?_ _)); refine blk_far ?_ NB128_132.out _; (with_reducible repeat (first | refine blk_drewN ?_ _ | refine blk_drew ?_ | refine blk_alloc ?_ _)); refine blk_far ?_ NB128_131.out _; (with_reducible repeat (first | refine blk_drewN ?_ _ | refine blk_drew ?_ | refine blk_alloc ?_ _)); refine blk_far ?_ NB128_131.out _; (with_reducible repeat (first | refine blk_drewN ?_ _ | refine blk_drew ?_ | refine blk_alloc ?_ _)); exact BK128.out)) : gb133 ≠ gb128)); have n24_ := Aside0.mk ((by rw [hg]; exact Nat.ne_of_lt (blk_lt (g := gb131) (o := .cells #[.int .i64 ((rd_T28 l0_3 (ji12)).f0), .int .i64 ((rd_T28 l0_3 (ji12)).f1)] 28 (0, 0)) (by (with_reducible repeat (first | refine blk_drewN ?_ _ | refine blk_drew ?_ | refine blk_alloc ?_ _)); refine blk_far ?_ NB131_132.out _; (with_reducible repeat (first | refine blk_drewN ?_ _ | refine blk_drew ?_ | refine blk_alloc ?_ _)); refine blk_far ?_ NB131_132.out _; (with_reducible repeat (first | refine blk_drewN ?_ _ | refine blk_drew ?_ | refine blk_alloc ?_ _)); refine blk_put (cs := #[.int .i64 ((rd_T28 l0_3 (ji12)).f0), .int .i64 0]) ?_ 1 _ rfl; (with_reducible repeat (first | refine blk_drewN ?_ _ | refine blk_drew ?_ | refine blk_alloc ?_ _)); refine blk_put (cs := #[.int .i64 0, .int .i64 0]) ?_ 0 _ rfl; (with_reducible repeat (first | refine blk_drewN ?_ _ | refine blk_drew ?_ | refine blk_alloc ?_ _)); exact BK131.out)) : gb131 ≠ gb133)); have n25_ := Aside0.mk ((by rw [hg]; exact Nat.ne_of_gt (blk_lt (g := gb131) (o := .cells #[.int .i64 ((rd_T28 l0_3 (ji12)).f0), .int .i64 ((rd_T28 l0_3 (ji12)).f1)] 28 (0, 0)) (by (with_reducible repeat (first | refine blk_drewN ?_ _ | refine blk_drew ?_ | refine blk_alloc ?_ _)); refine blk_far ?_ NB131_132.out _; (with_reducible repeat (first | refine blk_drewN ?_ _ | refine blk_drew ?_ | refine blk_alloc ?_ _)); refine blk_far ?_ NB131_132.out _; (with_reducible repeat (first | refine blk_drewN ?_ _ | refine blk_drew ?_ | refine blk_alloc ?_ _)); refine blk_put (cs := #[.int .i64 ((rd_T28 l0_3 (ji12)).f0), .int .i64 0]) ?_ 1 _ rfl; (with_reducible repeat (first | refine blk_drewN ?_ _ | refine blk_drew ?_ | refine blk_alloc ?_ _)); refine blk_put (cs := #[.int .i64 0, .int .i64 0]) ?_ 0 _ rfl; (with_reducible repeat (first | refine blk_drewN ?_ _ | refine blk_drew ?_ | refine blk_alloc ?_ _)); exact BK131.out)) : gb133 ≠ gb131)); have n26_ := Aside0.mk ((by rw [hg]; exact Nat.ne_of_lt (blk_lt (g := gb132) (o := .cells #[.int .i64 ((rd_T28 l0_3 (ji15)).f0), .int .i64 ((rd_T28 l0_3 (ji15)).f1)] 28 (0, 0)) (by (with_reducible repeat (first | refine blk_drewN ?_ _ | refine blk_drew ?_ | refine blk_alloc ?_ _)); refine blk_put (cs := #[.int .i64 ((rd_T28 l0_3 (ji15)).f0), .int .i64 0]) ?_ 1 _ rfl; (with_reducible repeat (first | refine blk_drewN ?_ _ | refine blk_drew ?_ | refine blk_alloc ?_ _)); refine blk_put (cs := #[.int .i64 0, .int .i64 0]) ?_ 0 _ rfl; (with_reducible repeat (first | refine blk_drewN ?_ _ | refine blk_drew ?_ | refine blk_alloc ?_ _)); refine blk_far ?_ NB132_131.out _; (with_reducible repeat (first | refine blk_drewN ?_ _ | refine blk_drew ?_ | refine blk_alloc ?_ _)); refine blk_far ?_ NB132_131.out _; (with_reducible repeat (first | refine blk_drewN ?_ _ | refine blk_drew ?_ | refine blk_alloc ?_ _)); exact BK132.out)) : gb132 ≠ gb133)); have n27_ := Aside0.mk ((by rw [hg]; exact Nat.ne_of_gt (blk_lt (g := gb132) (o := .cells #[.int .i64 ((rd_T28 l0_3 (ji15)).f0), .int .i64 ((rd_T28 l0_3 (ji15)).f1)] 28 (0, 0)) (by (with_reducible repeat (first | refine blk_drewN ?_ _ | refine blk_drew ?_ | refine blk_alloc ?_ _)); refine blk_put (cs := #[.int .i64 ((rd_T28 l0_3 (ji15)).f0), .int .i64 0]) ?_ 1 _ rfl; (with_reducible repeat (first | refine blk_drewN ?_ _ | refine blk_drew ?_ | refine blk_alloc ?_ _)); refine blk_put (cs := #[.int .i64 0, .int .i64 0]) ?_ 0 _ rfl; (with_reducible repeat (first | refine blk_drewN ?_ _ | refine blk_drew ?_ | refine blk_alloc ?_ _)); refine blk_far ?_ NB132_131.out _; (with_reducible repeat (first | refine blk_drewN ?_ _ | refine blk_drew ?_ | refine blk_alloc ?_ _)); refine blk_far ?_ NB132_131.out _; (with_reducible repeat (first | refine blk_drewN ?_ _ | refine blk_drew ?_ | refine blk_alloc ?_ _)); exact BK132.out)) : gb133 ≠ gb132)); clear BK117; clear BK118; clear BK121; clear BK124; clear BK127; clear BK128; clear BK131; clear BK132; clear HB; have BK117 := n0_; have BK118 := n1_; have BK121 := n2_; have BK124 := n3_; have BK127 := n4_; have BK128 := n5_; have BK131 := n6_; have BK132 := n7_; have HB := n8_; have BK133 := n9_; have GW133 := n10_; have GE133 := n11_; have NB117_133 := n12_; have NB133_117 := n13_; have NB118_133 := n14_; have NB133_118 := n15_; have NB121_133 := n16_; have NB133_121 := n17_; have NB124_133 := n18_; have NB133_124 := n19_; have NB127_133 := n20_; have NB133_127 := n21_; have NB128_133 := n22_; have NB133_128 := n23_; have NB131_133 := n24_; have NB133_131 := n25_; have NB132_133 := n26_; have NB133_132 := n27_; clear n0_ n1_ n2_ n3_ n4_ n5_ n6_ n7_ n8_ n9_ n10_ n11_ n12_ n13_ n14_ n15_ n16_ n17_ n18_ n19_ n20_ n21_ n22_ n23_ n24_ n25_ n26_ n27_; clear hb hbox hg; have hnb60 := NB133_117.out; have hnc60 := NB117_133.out; have hnb61 := NB133_118.out; have hnc61 := NB118_133.out; have hnb62 := NB133_121.out; have hnc62 := NB121_133.out; have hnb63 := NB133_124.out; have hnc63 := NB124_133.out; have hnb64 := NB133_127.out; have hnc64 := NB127_133.out; have hnb65 := NB133_128.out; have hnc65 := NB128_133.out; have hnb66 := NB133_131.out; have hnc66 := NB131_133.out; have hnb67 := NB133_132.out; have hnc67 := NB132_133.out; obtain ⟨hcz68_0, hfz68_0⟩ := zq1 BK133))
         have n0_ : Aside0 ((w59.setCell ⟨gb133, 0, none⟩ (.int .i64 a0_2)).heap[gb117]? = some (.cells #[.int .i64 a0_0, .int .i64 a0_1, .int .i64 a0_2, .slice (some ad125) l0_3.length c0_3] 24 (0, 0))) := ⟨by exact zf BK117 NB117_133⟩
         have n1_ : Aside0 ((w59.setCell ⟨gb133, 0, none⟩ (.int .i64 a0_2)).heap[gb118]? = some (.cells #[.int .i64 0, .int .i64 0] 28 (0, 0))) := ⟨by exact zf BK118 NB118_133⟩
         have n2_ : Aside0 ((w59.setCell ⟨gb133, 0, none⟩ (.int .i64 a0_2)).heap[gb121]? = some (.cells #[.int .i64 t120] 3 (0, 0))) := ⟨by exact zf BK121 NB121_133⟩
         have n3_ : Aside0 ((w59.setCell ⟨gb133, 0, none⟩ (.int .i64 a0_2)).heap[gb124]? = some (.cells #[.int .i64 t123] 3 (0, 0))) := ⟨by exact zf BK124 NB124_133⟩
         have n4_ : Aside0 ((w59.setCell ⟨gb133, 0, none⟩ (.int .i64 a0_2)).heap[gb127]? = some (.cells #[.int .i64 ((rd_T28 l0_3 (ji6)).f0), .int .i64 ((rd_T28 l0_3 (ji6)).f1)] 28 (0, 0))) := ⟨by exact zf BK127 NB127_133⟩
         have n5_ : Aside0 ((w59.setCell ⟨gb133, 0, none⟩ (.int .i64 a0_2)).heap[gb128]? = some (.cells #[.int .i64 ((rd_T28 l0_3 (ji9)).f0), .int .i64 ((rd_T28 l0_3 (ji9)).f1)] 28 (0, 0))) := ⟨by exact zf BK128 NB128_133⟩
         have n6_ : Aside0 ((w59.setCell ⟨gb133, 0, none⟩ (.int .i64 a0_2)).heap[gb131]? = some (.cells #[.int .i64 ((rd_T28 l0_3 (ji12)).f0), .int .i64 ((rd_T28 l0_3 (ji12)).f1)] 28 (0, 0))) := ⟨by exact zf BK131 NB131_133⟩
         have n7_ : Aside0 ((w59.setCell ⟨gb133, 0, none⟩ (.int .i64 a0_2)).heap[gb132]? = some (.cells #[.int .i64 ((rd_T28 l0_3 (ji15)).f0), .int .i64 ((rd_T28 l0_3 (ji15)).f1)] 28 (0, 0))) := ⟨by exact zf BK132 NB132_133⟩
         have n8_ : Aside0 ((w59.setCell ⟨gb133, 0, none⟩ (.int .i64 a0_2)).heap[gb133]? = some (.cells #[.int .i64 a0_2] 3 (0, 0))) := ⟨by exact zp BK133 rfl⟩
         have n9_ : Aside0 (Below w.heap.size w (w59.setCell ⟨gb133, 0, none⟩ (.int .i64 a0_2))) := ⟨by exact zbo HB GE133⟩
         (try clear BK117)
         (try clear BK118)
         (try clear BK121)
         (try clear BK124)
         (try clear BK127)
         (try clear BK128)
         (try clear BK131)
         (try clear BK132)
         (try clear BK133)
         (try clear HB)
         generalize (w59.setCell ⟨gb133, 0, none⟩ (.int .i64 a0_2)) = w69 at n0_ n1_ n2_ n3_ n4_ n5_ n6_ n7_ n8_ n9_ ⊢
         have BK117 := n0_
         have BK118 := n1_
         have BK121 := n2_
         have BK124 := n3_
         have BK127 := n4_
         have BK128 := n5_
         have BK131 := n6_
         have BK132 := n7_
         have BK133 := n8_
         have HB := n9_
         clear n0_ n1_ n2_ n3_ n4_ n5_ n6_ n7_ n8_ n9_
         replace BK117 := zkd BK117
         replace BK118 := zkd BK118
         replace BK121 := zkd BK121
         replace BK124 := zkd BK124
         replace BK127 := zkd BK127
         replace BK128 := zkd BK128
         replace BK131 := zkd BK131
         replace BK132 := zkd BK132
         replace BK133 := zkd BK133
         replace HB := zbd HB
         refine start_ (n := 22) (S := fun w' => w'.cell? ⟨gb127, 0, none⟩ = some (.int .i64 ((rd_T28 l0_3 (ji6)).f0)) ∧ w'.cell? ⟨gb127, 1, none⟩ = some (.int .i64 ((rd_T28 l0_3 (ji6)).f1)) ∧ w'.cell? ⟨gb128, 0, none⟩ = some (.int .i64 ((rd_T28 l0_3 (ji9)).f0)) ∧ w'.cell? ⟨gb128, 1, none⟩ = some (.int .i64 ((rd_T28 l0_3 (ji9)).f1)) ∧ w'.cell? ⟨gb131, 0, none⟩ = some (.int .i64 ((rd_T28 l0_3 (ji12)).f0)) ∧ w'.cell? ⟨gb131, 1, none⟩ = some (.int .i64 ((rd_T28 l0_3 (ji12)).f1)) ∧ w'.cell? ⟨gb132, 0, none⟩ = some (.int .i64 ((rd_T28 l0_3 (ji15)).f0)) ∧ w'.cell? ⟨gb132, 1, none⟩ = some (.int .i64 ((rd_T28 l0_3 (ji15)).f1))) (ds := []) (bs 22 0) (by kernel_rfl) rfl rfl ⟨(blk_cell BK127.out 0).trans rfl, (blk_cell BK127.out 1).trans rfl, (blk_cell BK128.out 0).trans rfl, (blk_cell BK128.out 1).trans rfl, (blk_cell BK131.out 0).trans rfl, (blk_cell BK131.out 1).trans rfl, (blk_cell BK132.out 0).trans rfl, (blk_cell BK132.out 1).trans rfl⟩ (fun hHeld => ?_); refine with_tabW warp_at.tab7 warp_at.bits7 (fun HT_ HW_ => ?_)
         generalize w69.drew = w70 at BK117 BK118 BK121 BK124 BK127 BK128 BK131 BK132 BK133 HB hHeld ⊢
         refine pure_ (i := 0) (N := some 82) (v := ?_) (a' := ?_) (bs 22 1) rfl rfl (any_of HT_.out (by kernel_rfl)) (fun _ _ _ h => h) (Or.inl ⟨by rfl, ?_⟩) ?_ ?_
         rotate_left
         ·intro w'
          go_simp
          with_reducible rfl
         rotate_left
         ·simp only [Act.put, sA, sB, sC, i64_w, i32_w]
          rfl
         refine pure_ (i := 1) (N := some 83) (v := ?_) (a' := ?_) (bs 22 3) rfl rfl (any_of HT_.out (by kernel_rfl)) (fun _ _ _ h => h) (Or.inl ⟨by rfl, ?_⟩) ?_ ?_
         rotate_left
         ·intro w'
          go_simp
          with_reducible rfl
         rotate_left
         ·simp only [Act.put, sA, sB, sC, i64_w, i32_w]
          rfl
         refine pure_ (i := 3) (N := some 85) (v := ?_) (a' := ?_) (bs 22 11) rfl rfl (any_of HT_.out (by kernel_rfl)) (fun _ _ _ h => h) (Or.inl ⟨by rfl, ?_⟩) ?_ ?_
         rotate_left
         ·intro w'
          go_simp
          with_reducible rfl
         rotate_left
         ·simp only [Act.put, sA, sB, sC, i64_w, i32_w]
          rfl
         refine pure_ (i := 5) (N := some 87) (v := ?_) (a' := ?_) (bs 22 43) rfl rfl (any_of HT_.out (by kernel_rfl)) (fun _ _ _ h => h) (Or.inl ⟨by rfl, ?_⟩) ?_ ?_
         rotate_left
         ·intro w'
          go_simp
          with_reducible rfl
         rotate_left
         ·simp only [Act.put, sA, sB, sC, i64_w, i32_w]
          rfl
         refine pure_ (i := 7) (N := some 89) (v := ?_) (a' := ?_) (bs 22 171) rfl rfl (any_of HT_.out (by kernel_rfl)) (fun _ _ _ h => h) (Or.inl ⟨by rfl, ?_⟩) ?_ ?_
         rotate_left
         ·intro w'
          go_simp
          with_reducible rfl
         rotate_left
         ·simp only [Act.put, sA, sB, sC, i64_w, i32_w]
          rfl
         refine pure_ (i := 10) (N := some 92) (v := ?_) (a' := ?_) (bs 22 1195) rfl rfl (any_of HT_.out (by kernel_rfl)) (fun _ _ _ h => h) (Or.inl ⟨by rfl, ?_⟩) ?_ ?_
         rotate_left
         ·intro w'
          go_simp
          with_reducible rfl
         rotate_left
         ·simp only [Act.put, sA, sB, sC, i64_w, i32_w]
          rfl
         refine pure_ (i := 11) (N := some 93) (v := ?_) (a' := ?_) (bs 22 3243) rfl rfl (any_of HT_.out (by kernel_rfl)) (fun _ _ _ h => h) (Or.inl ⟨by rfl, ?_⟩) ?_ ?_
         rotate_left
         ·intro w'
          go_simp
          with_reducible rfl
         rotate_left
         ·simp only [Act.put, sA, sB, sC, i64_w, i32_w]
          rfl
         refine pure_ (i := 13) (N := some 95) (v := ?_) (a' := ?_) (bs 22 11435) rfl rfl (any_of HT_.out (by kernel_rfl)) (fun _ _ _ h => h) (Or.inl ⟨by rfl, ?_⟩) ?_ ?_
         rotate_left
         ·intro w'
          go_simp
          with_reducible rfl
         rotate_left
         ·simp only [Act.put, sA, sB, sC, i64_w, i32_w]
          rfl
         refine pure_ (i := 15) (N := some 97) (v := ?_) (a' := ?_) (bs 22 44203) rfl rfl (any_of HT_.out (by kernel_rfl)) (fun _ _ _ h => h) (Or.inl ⟨by rfl, ?_⟩) ?_ ?_
         rotate_left
         ·intro w'
          go_simp
          with_reducible rfl
         rotate_left
         ·simp only [Act.put, sA, sB, sC, i64_w, i32_w]
          rfl
         refine pure_ (i := 17) (N := some 99) (v := ?_) (a' := ?_) (bs 22 175275) rfl rfl (any_of HT_.out (by kernel_rfl)) (fun _ _ _ h => h) (Or.inl ⟨by rfl, ?_⟩) ?_ ?_
         rotate_left
         ·intro w'
          go_simp
          with_reducible rfl
         rotate_left
         ·simp only [Act.put, sA, sB, sC, i64_w, i32_w]
          rfl
         refine take_ (i := 2) (N := some 84) (v := ?_) (a' := ?_) (bs 22 175279) rfl rfl (take_ofW HT_.out HW_.out (by kernel_rfl)) (fun _ _ _ h => h) (Or.inl ⟨by rfl, ?_⟩) hHeld ?_ ?_
         rotate_left
         ·rintro w' ⟨s0, s1, s2, s3, s4, s5, s6, s7⟩
          go_simp
          with_reducible rfl
         rotate_left
         ·simp only [Act.put, sA, sB, sC, i64_w, i32_w]
          rfl
         refine take_ (i := 4) (N := some 86) (v := ?_) (a' := ?_) (bs 22 175295) rfl rfl (take_ofW HT_.out HW_.out (by kernel_rfl)) (fun _ _ _ h => h) (Or.inl ⟨by rfl, ?_⟩) hHeld ?_ ?_
         rotate_left
         ·rintro w' ⟨s0, s1, s2, s3, s4, s5, s6, s7⟩
          go_simp
          with_reducible rfl
         rotate_left
         ·simp only [Act.put, sA, sB, sC, i64_w, i32_w]
          rfl
         refine take_ (i := 6) (N := some 88) (v := ?_) (a' := ?_) (bs 22 175359) rfl rfl (take_ofW HT_.out HW_.out (by kernel_rfl)) (fun _ _ _ h => h) (Or.inl ⟨by rfl, ?_⟩) hHeld ?_ ?_
         rotate_left
         ·rintro w' ⟨s0, s1, s2, s3, s4, s5, s6, s7⟩
          go_simp
          with_reducible rfl
         rotate_left
         ·simp only [Act.put, sA, sB, sC, i64_w, i32_w]
          rfl
         refine take_ (i := 8) (N := some 90) (v := ?_) (a' := ?_) (bs 22 175615) rfl rfl (take_ofW HT_.out HW_.out (by kernel_rfl)) (fun _ _ _ h => h) (Or.inl ⟨by rfl, ?_⟩) hHeld ?_ ?_
         rotate_left
         ·rintro w' ⟨s0, s1, s2, s3, s4, s5, s6, s7⟩
          go_simp
          with_reducible rfl
         rotate_left
         ·simp only [Act.put, sA, sB, sC, i64_w, i32_w]
          rfl
         refine take_ (i := 12) (N := some 94) (v := ?_) (a' := ?_) (bs 22 179711) rfl rfl (take_ofW HT_.out HW_.out (by kernel_rfl)) (fun _ _ _ h => h) (Or.inl ⟨by rfl, ?_⟩) hHeld ?_ ?_
         rotate_left
         ·rintro w' ⟨s0, s1, s2, s3, s4, s5, s6, s7⟩
          go_simp
          with_reducible rfl
         rotate_left
         ·simp only [Act.put, sA, sB, sC, i64_w, i32_w]
          rfl
         refine take_ (i := 14) (N := some 96) (v := ?_) (a' := ?_) (bs 22 196095) rfl rfl (take_ofW HT_.out HW_.out (by kernel_rfl)) (fun _ _ _ h => h) (Or.inl ⟨by rfl, ?_⟩) hHeld ?_ ?_
         rotate_left
         ·rintro w' ⟨s0, s1, s2, s3, s4, s5, s6, s7⟩
          go_simp
          with_reducible rfl
         rotate_left
         ·simp only [Act.put, sA, sB, sC, i64_w, i32_w]
          rfl
         refine take_ (i := 16) (N := some 98) (v := ?_) (a' := ?_) (bs 22 261631) rfl rfl (take_ofW HT_.out HW_.out (by kernel_rfl)) (fun _ _ _ h => h) (Or.inl ⟨by rfl, ?_⟩) hHeld ?_ ?_
         rotate_left
         ·rintro w' ⟨s0, s1, s2, s3, s4, s5, s6, s7⟩
          go_simp
          with_reducible rfl
         rotate_left
         ·simp only [Act.put, sA, sB, sC, i64_w, i32_w]
          rfl
         refine take_ (i := 18) (N := some 100) (v := ?_) (a' := ?_) (bs 22 523775) rfl rfl (take_ofW HT_.out HW_.out (by kernel_rfl)) (fun _ _ _ h => h) (Or.inl ⟨by rfl, ?_⟩) hHeld ?_ ?_
         rotate_left
         ·rintro w' ⟨s0, s1, s2, s3, s4, s5, s6, s7⟩
          go_simp
          with_reducible rfl
         rotate_left
         ·simp only [Act.put, sA, sB, sC, i64_w, i32_w]
          rfl
         refine one_ (i := 9) (N := some 91) (bs 22 524287) rfl rfl (one_of HT_.out (by kernel_rfl)) (by decide) (fun K hK => ?_)
         refine goesT_ (t := 82) Try.func66 (by kernel_rfl) rfl #[.pointer (some ⟨gb133, 0, none⟩), .pointer (some ⟨gb121, 0, none⟩), .pointer (some ⟨gb124, 0, none⟩)] #[.int .i64 ((rd_T28 l0_3 (ji6)).f0), .int .i64 ((rd_T28 l0_3 (ji9)).f0), .int .i64 ((rd_T28 l0_3 (ji12)).f0), .int .i64 ((rd_T28 l0_3 (ji15)).f0), .pointer (some ⟨gb133, 0, none⟩), .pointer (some ⟨gb121, 0, none⟩), .pointer (some ⟨gb124, 0, none⟩)] (by rfl) rfl rfl (by first | rfl | (go_simp; done) | (go_simp; rfl)) (by (try simp only [List.map_toArray, List.map_cons, List.map_nil]); first | done | rfl | (go_simp; done) | (go_simp; rfl)) ?_
         with_reducible refine (warp_at_1.calls k ((rd_T28 l0_3 (ji6)).f0) ((rd_T28 l0_3 (ji9)).f0) ((rd_T28 l0_3 (ji12)).f0) ((rd_T28 l0_3 (ji15)).f0) gb133 a0_2 gb121 t120 gb124 t123 t134 _ ?side1 ?side2 ?side3 A18.out).mono ?_
         (case side1 => exact zk0 BK133)
         (case side2 => exact zk0 BK121)
         (case side3 => exact zk0 BK124)
         rintro e w71 ⟨rfl, hb⟩
         refine ⟨_, rfl, ?_⟩
         replace BK117 := zk BK117 hb
         replace BK118 := zk BK118 hb
         replace BK121 := zk BK121 hb
         replace BK124 := zk BK124 hb
         replace BK127 := zk BK127 hb
         replace BK128 := zk BK128 hb
         replace BK131 := zk BK131 hb
         replace BK132 := zk BK132 hb
         replace BK133 := zk BK133 hb
         replace HB := zb HB hb
         (try clear hb)
         (try clear hb2)
         (try clear hk)
         (try clear hi)
         refine hK.out _ _ ⟨(blk_cell BK127.out 0).trans rfl, (blk_cell BK127.out 1).trans rfl, (blk_cell BK128.out 0).trans rfl, (blk_cell BK128.out 1).trans rfl, (blk_cell BK131.out 0).trans rfl, (blk_cell BK131.out 1).trans rfl, (blk_cell BK132.out 0).trans rfl, (blk_cell BK132.out 1).trans rfl⟩ (fun hHeld => ?_)
         clear hK K
         refine norm_ (a' := ?_) ?_ ?_
         rotate_left
         ·show Act.put _ (some 91) _ = _
          simp only [Act.put, sA, sB, sC, i64_w, i32_w]
          rfl
         refine one_ (i := 19) (N := some 101) (bs 22 1048575) rfl rfl (one_of HT_.out (by kernel_rfl)) (by decide) (fun K hK => ?_)
         refine goesT_ (t := 92) Try.func66 (by kernel_rfl) rfl #[.pointer (some ⟨gb133, 0, none⟩), .pointer (some ⟨gb121, 0, none⟩), .pointer (some ⟨gb124, 0, none⟩)] #[.int .i64 ((rd_T28 l0_3 (ji6)).f1), .int .i64 ((rd_T28 l0_3 (ji9)).f1), .int .i64 ((rd_T28 l0_3 (ji12)).f1), .int .i64 ((rd_T28 l0_3 (ji15)).f1), .pointer (some ⟨gb133, 0, none⟩), .pointer (some ⟨gb121, 0, none⟩), .pointer (some ⟨gb124, 0, none⟩)] (by rfl) rfl rfl (by first | rfl | (go_simp; done) | (go_simp; rfl)) (by (try simp only [List.map_toArray, List.map_cons, List.map_nil]); first | done | rfl | (go_simp; done) | (go_simp; rfl)) ?_
         with_reducible refine (warp_at_1.calls k ((rd_T28 l0_3 (ji6)).f1) ((rd_T28 l0_3 (ji9)).f1) ((rd_T28 l0_3 (ji12)).f1) ((rd_T28 l0_3 (ji15)).f1) gb133 a0_2 gb121 t120 gb124 t123 t135 _ ?side1 ?side2 ?side3 A19.out).mono ?_
         (case side1 => exact zk0 BK133)
         (case side2 => exact zk0 BK121)
         (case side3 => exact zk0 BK124)
         rintro e w72 ⟨rfl, hb⟩
         refine ⟨_, rfl, ?_⟩
         replace BK117 := zk BK117 hb
         replace BK118 := zk BK118 hb
         replace BK121 := zk BK121 hb
         replace BK124 := zk BK124 hb
         replace BK127 := zk BK127 hb
         replace BK128 := zk BK128 hb
         replace BK131 := zk BK131 hb
         replace BK132 := zk BK132 hb
         replace BK133 := zk BK133 hb
         replace HB := zb HB hb
         (try clear hb)
         (try clear hb2)
         (try clear hk)
         (try clear hi)
         refine hK.out _ _ ⟨(blk_cell BK127.out 0).trans rfl, (blk_cell BK127.out 1).trans rfl, (blk_cell BK128.out 0).trans rfl, (blk_cell BK128.out 1).trans rfl, (blk_cell BK131.out 0).trans rfl, (blk_cell BK131.out 1).trans rfl, (blk_cell BK132.out 0).trans rfl, (blk_cell BK132.out 1).trans rfl⟩ (fun hHeld => ?_)
         clear hK K
         refine norm_ (a' := ?_) ?_ ?_
         rotate_left
         ·show Act.put _ (some 101) _ = _
          simp only [Act.put, sA, sB, sC, i64_w, i32_w]
          rfl
         refine pure_ (i := 20) (N := some 102) (v := ?_) (a' := ?_) (bs 22 2097151) rfl rfl (any_of HT_.out (by kernel_rfl)) (fun _ _ _ h => h) (Or.inl ⟨by rfl, ?_⟩) ?_ ?_
         rotate_left
         ·intro w'
          go_simp
          with_reducible rfl
         rotate_left
         ·simp only [Act.put, sA, sB, sC, i64_w, i32_w]
          rfl
         refine one_ (i := 21) (N := none) (bs 22 4194303) rfl rfl (one_of HT_.out (by kernel_rfl)) (by decide) (fun K hK => ?_)
         have hs73 : w72.cell? ⟨gb118, 0, none⟩ = some (.int .i64 0) := (blk_cell BK118.out 0).trans rfl
         have hfs73 := blk_frozen BK118.out 0
         have hns73_0 := NB117_118.out
         have hns73_2 := NB121_118.out
         have hns73_3 := NB124_118.out
         have hns73_4 := NB127_118.out
         have hns73_5 := NB128_118.out
         have hns73_6 := NB131_118.out
         have hns73_7 := NB132_118.out
         have hns73_8 := NB133_118.out
         have hms73_0 := NB118_117.out
         have hms73_2 := NB118_121.out
         have hms73_3 := NB118_124.out
         have hms73_4 := NB118_127.out
         have hms73_5 := NB118_128.out
         have hms73_6 := NB118_131.out
         have hms73_7 := NB118_132.out
         have hms73_8 := NB118_133.out
         have hs74 : w72.cell? ⟨gb118, 1, none⟩ = some (.int .i64 0) := (blk_cell BK118.out 1).trans rfl
         have hfs74 := blk_frozen BK118.out 1
         have hns74_0 := NB117_118.out
         have hns74_2 := NB121_118.out
         have hns74_3 := NB124_118.out
         have hns74_4 := NB127_118.out
         have hns74_5 := NB128_118.out
         have hns74_6 := NB131_118.out
         have hns74_7 := NB132_118.out
         have hns74_8 := NB133_118.out
         have hms74_0 := NB118_117.out
         have hms74_2 := NB118_121.out
         have hms74_3 := NB118_124.out
         have hms74_4 := NB118_127.out
         have hms74_5 := NB118_128.out
         have hms74_6 := NB118_131.out
         have hms74_7 := NB118_132.out
         have hms74_8 := NB118_133.out
         refine skip_ (w1 := ?_) (by rfl) rfl ?_ ?_
         rotate_left
         ·go_simp
          rfl
         refine hK.out _ _ ⟨((cell_far (p := ⟨gb118, _, none⟩) NB127_118.out _).trans (((cell_far (p := ⟨gb118, _, none⟩) NB127_118.out _).trans (hHeld.1)))), ((cell_far (p := ⟨gb118, _, none⟩) NB127_118.out _).trans (((cell_far (p := ⟨gb118, _, none⟩) NB127_118.out _).trans (hHeld.2.1)))), ((cell_far (p := ⟨gb118, _, none⟩) NB128_118.out _).trans (((cell_far (p := ⟨gb118, _, none⟩) NB128_118.out _).trans (hHeld.2.2.1)))), ((cell_far (p := ⟨gb118, _, none⟩) NB128_118.out _).trans (((cell_far (p := ⟨gb118, _, none⟩) NB128_118.out _).trans (hHeld.2.2.2.1)))), ((cell_far (p := ⟨gb118, _, none⟩) NB131_118.out _).trans (((cell_far (p := ⟨gb118, _, none⟩) NB131_118.out _).trans (hHeld.2.2.2.2.1)))), ((cell_far (p := ⟨gb118, _, none⟩) NB131_118.out _).trans (((cell_far (p := ⟨gb118, _, none⟩) NB131_118.out _).trans (hHeld.2.2.2.2.2.1)))), ((cell_far (p := ⟨gb118, _, none⟩) NB132_118.out _).trans (((cell_far (p := ⟨gb118, _, none⟩) NB132_118.out _).trans (hHeld.2.2.2.2.2.2.1)))), ((cell_far (p := ⟨gb118, _, none⟩) NB132_118.out _).trans (((cell_far (p := ⟨gb118, _, none⟩) NB132_118.out _).trans (hHeld.2.2.2.2.2.2.2))))⟩ (fun hHeld => ?_)
         clear hK K
         refine done_ (done_of HT_.out (by kernel_rfl)) ?_
         try go_wp2
         refine bodyPost_ret (results_cell_row rfl _ _ gb118 28 #[.int .i64 t134, .int .i64 t135] (0, 0) _ rfl (by exact zp BK118 rfl) Try.underlying28 rfl (by kernel_rfl)) rfl ?_
         exact ⟨by first | rfl | (simp [errW_none, errW_some] <;> rfl) | (simp only [← hji6, ← hji9, ← hji12, ← hji15]; first | rfl | (simp [errW_none, errW_some] <;> rfl)) | (simp [*, errW_none, errW_some] <;> rfl), by exact zbo HB GE118⟩
        ·rw [if_neg c17] at H
         exact absurd H (by simp)
       ·rw [if_neg c16] at H
        exact absurd H (by simp)
      ·rw [if_neg c14] at H
       exact absurd H (by simp)
     ·rw [if_neg c13] at H
      exact absurd H (by simp)
    ·rw [if_neg c11] at H
     exact absurd H (by simp)
   ·rw [if_neg c10] at H
    exact absurd H (by simp)
  ·rw [if_neg c8] at H
   exact absurd H (by simp)
 ·rw [if_neg c7] at H
  exact absurd H (by simp)

end Go.Proofs.Ytnfbabmceddciaa.G
