/- Contracts of functions of the program, each as it is called: what it computes (.f), that it computes no less with more rounds (.mono), and that a call returns just that (.calls). No conditions but those that each contract names. Written by a program of this session (wip/gx.py over the kit's print). -/
import Derived.Test.YtnfbabmceddciaaG0
import Derived.Test.YtnfbabmceddciaaG2
import Derived.Test.YtnfbabmceddciaaG5
namespace Go.Proofs.Ytnfbabmceddciaa.G
open Go.RowKit Go.Proofs.YtnfbabmceddciaaW.PrintWords Go.Proofs.YtnfbabmceddciaaW.PrintLast Go.Proofs.YtnfbabmceddciaaW.PrintMore
attribute [local go_sem] max2_int min2_int max_two min_two max_three min_three max_four min_four max_five min_five   -- for this text's walks alone
set_option linter.unusedVariables false
set_option linter.unusedSimpArgs false


/-! ### imageeditorref15_At: function 13 -/
def imageeditorref15_At.f (k : Nat) (a0_0 : Int) (a0_1 : Int) (a0_2 : Int) (l0_3 : List (S28)) (a1 : Int) (a2 : Int) : Option (Int × Int) := (imageeditorref15_Check.f k a0_0 a0_1 a0_2 l0_3).bind fun t146 => (if t146 = 0 then ((imageeditorref01_Clamp.f a1 0 (wrap64 ((wrap64 (a0_0 - 1)) * a0_2))).bind fun t147 => ((imageeditorref01_Clamp.f a2 0 (wrap64 ((wrap64 (a0_1 - 1)) * a0_2))).bind fun t148 => (if a0_2 = 0 then (none) else ((imageeditorref01_Clamp.f (wrap64 (Int.tdiv t147 a0_2)) 0 (wrap64 (a0_0 - 2))).bind fun t149 => ((imageeditorref01_Clamp.f (wrap64 (Int.tdiv t148 a0_2)) 0 (wrap64 (a0_1 - 2))).bind fun t150 => (if 0 ≤ (wrap64 ((wrap64 (t150 * a0_0)) + t149)) then (if (wrap64 ((wrap64 (t150 * a0_0)) + t149)) < (l0_3.length : Int) then (if 0 ≤ (wrap64 ((wrap64 ((wrap64 (t150 * a0_0)) + t149)) + 1)) then (if (wrap64 ((wrap64 ((wrap64 (t150 * a0_0)) + t149)) + 1)) < (l0_3.length : Int) then (if 0 ≤ (wrap64 ((wrap64 ((wrap64 (t150 + 1)) * a0_0)) + t149)) then (if (wrap64 ((wrap64 ((wrap64 (t150 + 1)) * a0_0)) + t149)) < (l0_3.length : Int) then (if 0 ≤ (wrap64 ((wrap64 ((wrap64 ((wrap64 (t150 + 1)) * a0_0)) + t149)) + 1)) then (if (wrap64 ((wrap64 ((wrap64 ((wrap64 (t150 + 1)) * a0_0)) + t149)) + 1)) < (l0_3.length : Int) then ((imageeditorref01_Div.f k (wrap64 ((wrap64 ((wrap64 ((wrap64 ((wrap64 ((wrap64 (a0_2 - (wrap64 (t147 - (wrap64 (t149 * a0_2)))))) * (wrap64 (a0_2 - (wrap64 (t148 - (wrap64 (t150 * a0_2)))))))) * ((rd_T28 l0_3 (wrap64 ((wrap64 (t150 * a0_0)) + t149))).f0))) + (wrap64 ((wrap64 ((wrap64 (t147 - (wrap64 (t149 * a0_2)))) * (wrap64 (a0_2 - (wrap64 (t148 - (wrap64 (t150 * a0_2)))))))) * ((rd_T28 l0_3 (wrap64 ((wrap64 ((wrap64 (t150 * a0_0)) + t149)) + 1))).f0))))) + (wrap64 ((wrap64 ((wrap64 (a0_2 - (wrap64 (t147 - (wrap64 (t149 * a0_2)))))) * (wrap64 (t148 - (wrap64 (t150 * a0_2)))))) * ((rd_T28 l0_3 (wrap64 ((wrap64 ((wrap64 (t150 + 1)) * a0_0)) + t149))).f0))))) + (wrap64 ((wrap64 ((wrap64 (t147 - (wrap64 (t149 * a0_2)))) * (wrap64 (t148 - (wrap64 (t150 * a0_2)))))) * ((rd_T28 l0_3 (wrap64 ((wrap64 ((wrap64 ((wrap64 (t150 + 1)) * a0_0)) + t149)) + 1))).f0))))) (wrap64 (a0_2 * a0_2))).bind fun t159 => ((imageeditorref01_Div.f k (wrap64 ((wrap64 ((wrap64 ((wrap64 ((wrap64 ((wrap64 (a0_2 - (wrap64 (t147 - (wrap64 (t149 * a0_2)))))) * (wrap64 (a0_2 - (wrap64 (t148 - (wrap64 (t150 * a0_2)))))))) * ((rd_T28 l0_3 (wrap64 ((wrap64 (t150 * a0_0)) + t149))).f1))) + (wrap64 ((wrap64 ((wrap64 (t147 - (wrap64 (t149 * a0_2)))) * (wrap64 (a0_2 - (wrap64 (t148 - (wrap64 (t150 * a0_2)))))))) * ((rd_T28 l0_3 (wrap64 ((wrap64 ((wrap64 (t150 * a0_0)) + t149)) + 1))).f1))))) + (wrap64 ((wrap64 ((wrap64 (a0_2 - (wrap64 (t147 - (wrap64 (t149 * a0_2)))))) * (wrap64 (t148 - (wrap64 (t150 * a0_2)))))) * ((rd_T28 l0_3 (wrap64 ((wrap64 ((wrap64 (t150 + 1)) * a0_0)) + t149))).f1))))) + (wrap64 ((wrap64 ((wrap64 (t147 - (wrap64 (t149 * a0_2)))) * (wrap64 (t148 - (wrap64 (t150 * a0_2)))))) * ((rd_T28 l0_3 (wrap64 ((wrap64 ((wrap64 ((wrap64 (t150 + 1)) * a0_0)) + t149)) + 1))).f1))))) (wrap64 (a0_2 * a0_2))).bind fun t160 => (some (t159, t160)))) else (none)) else (none)) else (none)) else (none)) else (none)) else (none)) else (none)) else (none))))))) else (some (0, 0)))
theorem imageeditorref15_At.mono : ∀ a0 a1 a2 a3 a4 a5 k, LeO (imageeditorref15_At.f k a0 a1 a2 a3 a4 a5) (imageeditorref15_At.f (k + 1) a0 a1 a2 a3 a4 a5) := by
 intro a0 a1 a2 a3 a4 a5 k
 unfold imageeditorref15_At.f
 repeat' first
   | (with_reducible exact imageeditorref01_Div.mono _ _ _)
   | (with_reducible exact imageeditorref15_Check.mono _ _ _ _ _)
   | (with_reducible exact LeO.refl _)
   | (with_reducible exact LeO.none _)
   | (with_reducible refine LeO.ite ?_ ?_)
   | (with_reducible refine LeO.bind ?_ (fun _ => ?_))
   | exact imageeditorref01_Div.mono _ _ _
   | exact imageeditorref15_Check.mono _ _ _ _ _
   | exact LeO.none _
   | refine LeO.ite ?_ ?_
   | refine LeO.bind ?_ (fun _ => ?_)
def imageeditorref15_At.T4 : Bool × List (List Nat × List Nat) := (true, [([], []), ([], []), ([1], [1]), ([2], [2]), ([], []), ([3, 4], [3, 4]), ([0, 5], [0, 5]), ([], []), ([], []), ([8], [8]), ([9], [9]), ([], []), ([10, 11], [10, 11]), ([7, 12, 6], [7, 12]), ([6, 13, 0, 1, 2, 3, 4, 5, 6], [6]), ([13, 14, 0, 1, 2, 3, 4, 5, 6, 7, 8, 9, 10, 11, 12, 13, 14], [13])])
def imageeditorref15_At.B4 : List Nat := [0, 0, 2, 6, 0, 30, 63, 0, 0, 256, 768, 0, 3840, 8191, 16383, 32767]
theorem imageeditorref15_At.tab4 : rtab .any (opsOf Try.f13 4) = imageeditorref15_At.T4 := by kernel_rfl
theorem imageeditorref15_At.bits4 : waitsOk imageeditorref15_At.T4.2 imageeditorref15_At.B4 = true := by kernel_rfl
def imageeditorref15_At.T5 : Bool × List (List Nat × List Nat) := (true, [([], []), ([], []), ([0, 1], [0, 1]), ([], []), ([3], [3]), ([4], [4]), ([2, 5], [2, 5]), ([], []), ([], []), ([7, 8], [7, 8]), ([], []), ([10], [10]), ([11], [11]), ([9, 12, 6], [9, 12]), ([6, 13, 0, 1, 2, 3, 4, 5, 6], [6]), ([13, 14, 0, 1, 2, 3, 4, 5, 6, 7, 8, 9, 10, 11, 12, 13, 14], [13])])
def imageeditorref15_At.B5 : List Nat := [0, 0, 3, 0, 8, 24, 63, 0, 0, 384, 0, 1024, 3072, 8191, 16383, 32767]
theorem imageeditorref15_At.tab5 : rtab .any (opsOf Try.f13 5) = imageeditorref15_At.T5 := by kernel_rfl
theorem imageeditorref15_At.bits5 : waitsOk imageeditorref15_At.T5.2 imageeditorref15_At.B5 = true := by kernel_rfl
def imageeditorref15_At.T7 : Bool × List (List Nat × List Nat) := (true, [([], []), ([0], [0]), ([], []), ([], []), ([3], [3]), ([2, 4], [2, 4]), ([], []), ([5, 6], [5, 6]), ([1, 7], [1, 7]), ([8], [8]), ([], []), ([10], [10]), ([], []), ([], []), ([13], [13]), ([12, 14], [12, 14]), ([], []), ([15, 16], [15, 16]), ([17], [17]), ([11, 18], [11, 18]), ([19], [19]), ([], []), ([], []), ([21, 9, 0, 1, 2, 3, 4, 5, 6, 7, 8, 9, 21, 22], [9, 21]), ([22, 20, 23, 0, 1, 2, 3, 4, 5, 6, 7, 8, 9, 10, 11, 12, 13, 14, 15, 16, 17, 18, 19, 20, 21, 22, 23], [20, 22])])
def imageeditorref15_At.B7 : List Nat := [0, 1, 0, 0, 8, 28, 0, 124, 255, 511, 0, 1024, 0, 0, 8192, 28672, 0, 126976, 258048, 523264, 1047552, 0, 0, 6292479, 16777215]
theorem imageeditorref15_At.tab7 : rtab .any (opsOf Try.f13 7) = imageeditorref15_At.T7 := by kernel_rfl
theorem imageeditorref15_At.bits7 : waitsOk imageeditorref15_At.T7.2 imageeditorref15_At.B7 = true := by kernel_rfl
def imageeditorref15_At.T8 : Bool × List (List Nat × List Nat) := (true, [([], []), ([0], [0]), ([], []), ([2], [2]), ([], []), ([4], [4]), ([3, 5], [3, 5]), ([], []), ([6, 7], [6, 7]), ([1, 8], [1, 8]), ([9], [9]), ([], []), ([11], [11]), ([], []), ([13], [13]), ([], []), ([15], [15]), ([14, 16], [14, 16]), ([], []), ([17, 18], [17, 18]), ([19], [19]), ([12, 20], [12, 20]), ([21], [21]), ([], []), ([], []), ([23, 10, 0, 1, 2, 3, 4, 5, 6, 7, 8, 9, 10, 23, 24], [10, 23]), ([24, 22, 25, 0, 1, 2, 3, 4, 5, 6, 7, 8, 9, 10, 11, 12, 13, 14, 15, 16, 17, 18, 19, 20, 21, 22, 23, 24, 25], [22, 24])])
def imageeditorref15_At.B8 : List Nat := [0, 1, 0, 4, 0, 16, 60, 0, 252, 511, 1023, 0, 2048, 0, 8192, 0, 32768, 122880, 0, 516096, 1040384, 2095104, 4192256, 0, 0, 25167871, 67108863]
theorem imageeditorref15_At.tab8 : rtab .any (opsOf Try.f13 8) = imageeditorref15_At.T8 := by kernel_rfl
theorem imageeditorref15_At.bits8 : waitsOk imageeditorref15_At.T8.2 imageeditorref15_At.B8 = true := by kernel_rfl
def imageeditorref15_At.T10 : Bool × List (List Nat × List Nat) := (true, [([], []), ([], []), ([1], [1]), ([0, 2], [0, 2]), ([], []), ([], []), ([5], [5]), ([4, 6], [4, 6]), ([3, 7], [3, 7]), ([], []), ([], []), ([10], [10]), ([9, 11], [9, 11]), ([8, 12], [8, 12]), ([], []), ([], []), ([15], [15]), ([14, 16], [14, 16]), ([13, 17], [13, 17]), ([], []), ([], []), ([19, 20], [19, 20]), ([18, 21], [18, 21]), ([], []), ([], []), ([24], [24]), ([23, 25], [23, 25]), ([], []), ([], []), ([28], [28]), ([27, 29], [27, 29]), ([26, 30], [26, 30]), ([], []), ([], []), ([33], [33]), ([32, 34], [32, 34]), ([31, 35], [31, 35]), ([], []), ([], []), ([38], [38]), ([37, 39], [37, 39]), ([36, 40], [36, 40]), ([], []), ([], []), ([42, 43], [42, 43]), ([41, 44, 22], [41, 44]), ([22, 45], [22, 45]), ([46, 45, 0, 1, 2, 3, 4, 5, 6, 7, 8, 9, 10, 11, 12, 13, 14, 15, 16, 17, 18, 19, 20, 21, 22, 23, 24, 25, 26, 27, 28, 29, 30, 31, 32, 33, 34, 35, 36, 37, 38, 39, 40, 41, 42, 43, 44, 45, 46], [46])])
def imageeditorref15_At.B10 : List Nat := [0, 0, 2, 7, 0, 0, 32, 112, 255, 0, 0, 1024, 3584, 8191, 0, 0, 32768, 114688, 262143, 0, 0, 1572864, 4194303, 0, 0, 16777216, 58720256, 0, 0, 268435456, 939524096, 2139095040, 0, 0, 8589934592, 30064771072, 68711088128, 0, 0, 274877906944, 962072674304, 2199014866944, 0, 0, 13194139533312, 35184372088831, 70368744177663, 140737488355327]
theorem imageeditorref15_At.tab10 : rtab .any (opsOf Try.f13 10) = imageeditorref15_At.T10 := by kernel_rfl
theorem imageeditorref15_At.bits10 : waitsOk imageeditorref15_At.T10.2 imageeditorref15_At.B10 = true := by kernel_rfl
set_option maxHeartbeats 8000000 in
set_option maxRecDepth 100000 in
theorem imageeditorref15_At.calls (k : Nat) (a0_0 : Int) (a0_1 : Int) (a0_2 : Int) (A0_3 : Option Addr) (c0_3 : Nat) (l0_3 : List (S28)) (a1 : Int) (a2 : Int) (r1 : Int) (r2 : Int) (w : World) (hr0_3 : Kd.C k28 w A0_3 l0_3.length l0_3) (hc0_3 : l0_3.length ≤ c0_3) (h : imageeditorref15_At.f k a0_0 a0_1 a0_2 l0_3 a1 a2 = some (r1, r2)) :
  Calls Try.prog 13 #[.agg #[.int .i64 a0_0, .int .i64 a0_1, .int .i64 a0_2, .slice A0_3 l0_3.length c0_3], .int .i64 a1, .int .i64 a2] w fun e w' => e = .returned (.agg #[.int .i64 r1, .int .i64 r2]) ∧ Below w.heap.size w w' := by
 have hu24 := Try.underlying24
 have hu28 := Try.underlying28
 have HR0_3 := Aside0.mk hr0_3
 have HC0_3 := Aside0.mk hc0_3
 clear hr0_3 hc0_3
 have HB := Aside0.mk (Below.refl w.heap.size w)
 have H : ((imageeditorref15_Check.f k a0_0 a0_1 a0_2 l0_3).bind fun t146 => (if t146 = 0 then ((imageeditorref01_Clamp.f a1 0 (wrap64 ((wrap64 (a0_0 - 1)) * a0_2))).bind fun t147 => ((imageeditorref01_Clamp.f a2 0 (wrap64 ((wrap64 (a0_1 - 1)) * a0_2))).bind fun t148 => (if a0_2 = 0 then (none) else ((imageeditorref01_Clamp.f (wrap64 (Int.tdiv t147 a0_2)) 0 (wrap64 (a0_0 - 2))).bind fun t149 => ((imageeditorref01_Clamp.f (wrap64 (Int.tdiv t148 a0_2)) 0 (wrap64 (a0_1 - 2))).bind fun t150 => (if 0 ≤ (wrap64 ((wrap64 (t150 * a0_0)) + t149)) then (if (wrap64 ((wrap64 (t150 * a0_0)) + t149)) < (l0_3.length : Int) then (if 0 ≤ (wrap64 ((wrap64 ((wrap64 (t150 * a0_0)) + t149)) + 1)) then (if (wrap64 ((wrap64 ((wrap64 (t150 * a0_0)) + t149)) + 1)) < (l0_3.length : Int) then (if 0 ≤ (wrap64 ((wrap64 ((wrap64 (t150 + 1)) * a0_0)) + t149)) then (if (wrap64 ((wrap64 ((wrap64 (t150 + 1)) * a0_0)) + t149)) < (l0_3.length : Int) then (if 0 ≤ (wrap64 ((wrap64 ((wrap64 ((wrap64 (t150 + 1)) * a0_0)) + t149)) + 1)) then (if (wrap64 ((wrap64 ((wrap64 ((wrap64 (t150 + 1)) * a0_0)) + t149)) + 1)) < (l0_3.length : Int) then ((imageeditorref01_Div.f k (wrap64 ((wrap64 ((wrap64 ((wrap64 ((wrap64 ((wrap64 (a0_2 - (wrap64 (t147 - (wrap64 (t149 * a0_2)))))) * (wrap64 (a0_2 - (wrap64 (t148 - (wrap64 (t150 * a0_2)))))))) * ((rd_T28 l0_3 (wrap64 ((wrap64 (t150 * a0_0)) + t149))).f0))) + (wrap64 ((wrap64 ((wrap64 (t147 - (wrap64 (t149 * a0_2)))) * (wrap64 (a0_2 - (wrap64 (t148 - (wrap64 (t150 * a0_2)))))))) * ((rd_T28 l0_3 (wrap64 ((wrap64 ((wrap64 (t150 * a0_0)) + t149)) + 1))).f0))))) + (wrap64 ((wrap64 ((wrap64 (a0_2 - (wrap64 (t147 - (wrap64 (t149 * a0_2)))))) * (wrap64 (t148 - (wrap64 (t150 * a0_2)))))) * ((rd_T28 l0_3 (wrap64 ((wrap64 ((wrap64 (t150 + 1)) * a0_0)) + t149))).f0))))) + (wrap64 ((wrap64 ((wrap64 (t147 - (wrap64 (t149 * a0_2)))) * (wrap64 (t148 - (wrap64 (t150 * a0_2)))))) * ((rd_T28 l0_3 (wrap64 ((wrap64 ((wrap64 ((wrap64 (t150 + 1)) * a0_0)) + t149)) + 1))).f0))))) (wrap64 (a0_2 * a0_2))).bind fun t159 => ((imageeditorref01_Div.f k (wrap64 ((wrap64 ((wrap64 ((wrap64 ((wrap64 ((wrap64 (a0_2 - (wrap64 (t147 - (wrap64 (t149 * a0_2)))))) * (wrap64 (a0_2 - (wrap64 (t148 - (wrap64 (t150 * a0_2)))))))) * ((rd_T28 l0_3 (wrap64 ((wrap64 (t150 * a0_0)) + t149))).f1))) + (wrap64 ((wrap64 ((wrap64 (t147 - (wrap64 (t149 * a0_2)))) * (wrap64 (a0_2 - (wrap64 (t148 - (wrap64 (t150 * a0_2)))))))) * ((rd_T28 l0_3 (wrap64 ((wrap64 ((wrap64 (t150 * a0_0)) + t149)) + 1))).f1))))) + (wrap64 ((wrap64 ((wrap64 (a0_2 - (wrap64 (t147 - (wrap64 (t149 * a0_2)))))) * (wrap64 (t148 - (wrap64 (t150 * a0_2)))))) * ((rd_T28 l0_3 (wrap64 ((wrap64 ((wrap64 (t150 + 1)) * a0_0)) + t149))).f1))))) + (wrap64 ((wrap64 ((wrap64 (t147 - (wrap64 (t149 * a0_2)))) * (wrap64 (t148 - (wrap64 (t150 * a0_2)))))) * ((rd_T28 l0_3 (wrap64 ((wrap64 ((wrap64 ((wrap64 (t150 + 1)) * a0_0)) + t149)) + 1))).f1))))) (wrap64 (a0_2 * a0_2))).bind fun t160 => (some (t159, t160)))) else (none)) else (none)) else (none)) else (none)) else (none)) else (none)) else (none)) else (none))))))) else (some (0, 0)))) = some (r1, r2) := h
 clear h
 replace H := Option.bind_eq_some_iff.mp H
 obtain ⟨t146, A40, H⟩ := H
 replace H : (if t146 = 0 then ((imageeditorref01_Clamp.f a1 0 (wrap64 ((wrap64 (a0_0 - 1)) * a0_2))).bind fun t147 => ((imageeditorref01_Clamp.f a2 0 (wrap64 ((wrap64 (a0_1 - 1)) * a0_2))).bind fun t148 => (if a0_2 = 0 then (none) else ((imageeditorref01_Clamp.f (wrap64 (Int.tdiv t147 a0_2)) 0 (wrap64 (a0_0 - 2))).bind fun t149 => ((imageeditorref01_Clamp.f (wrap64 (Int.tdiv t148 a0_2)) 0 (wrap64 (a0_1 - 2))).bind fun t150 => (if 0 ≤ (wrap64 ((wrap64 (t150 * a0_0)) + t149)) then (if (wrap64 ((wrap64 (t150 * a0_0)) + t149)) < (l0_3.length : Int) then (if 0 ≤ (wrap64 ((wrap64 ((wrap64 (t150 * a0_0)) + t149)) + 1)) then (if (wrap64 ((wrap64 ((wrap64 (t150 * a0_0)) + t149)) + 1)) < (l0_3.length : Int) then (if 0 ≤ (wrap64 ((wrap64 ((wrap64 (t150 + 1)) * a0_0)) + t149)) then (if (wrap64 ((wrap64 ((wrap64 (t150 + 1)) * a0_0)) + t149)) < (l0_3.length : Int) then (if 0 ≤ (wrap64 ((wrap64 ((wrap64 ((wrap64 (t150 + 1)) * a0_0)) + t149)) + 1)) then (if (wrap64 ((wrap64 ((wrap64 ((wrap64 (t150 + 1)) * a0_0)) + t149)) + 1)) < (l0_3.length : Int) then ((imageeditorref01_Div.f k (wrap64 ((wrap64 ((wrap64 ((wrap64 ((wrap64 ((wrap64 (a0_2 - (wrap64 (t147 - (wrap64 (t149 * a0_2)))))) * (wrap64 (a0_2 - (wrap64 (t148 - (wrap64 (t150 * a0_2)))))))) * ((rd_T28 l0_3 (wrap64 ((wrap64 (t150 * a0_0)) + t149))).f0))) + (wrap64 ((wrap64 ((wrap64 (t147 - (wrap64 (t149 * a0_2)))) * (wrap64 (a0_2 - (wrap64 (t148 - (wrap64 (t150 * a0_2)))))))) * ((rd_T28 l0_3 (wrap64 ((wrap64 ((wrap64 (t150 * a0_0)) + t149)) + 1))).f0))))) + (wrap64 ((wrap64 ((wrap64 (a0_2 - (wrap64 (t147 - (wrap64 (t149 * a0_2)))))) * (wrap64 (t148 - (wrap64 (t150 * a0_2)))))) * ((rd_T28 l0_3 (wrap64 ((wrap64 ((wrap64 (t150 + 1)) * a0_0)) + t149))).f0))))) + (wrap64 ((wrap64 ((wrap64 (t147 - (wrap64 (t149 * a0_2)))) * (wrap64 (t148 - (wrap64 (t150 * a0_2)))))) * ((rd_T28 l0_3 (wrap64 ((wrap64 ((wrap64 ((wrap64 (t150 + 1)) * a0_0)) + t149)) + 1))).f0))))) (wrap64 (a0_2 * a0_2))).bind fun t159 => ((imageeditorref01_Div.f k (wrap64 ((wrap64 ((wrap64 ((wrap64 ((wrap64 ((wrap64 (a0_2 - (wrap64 (t147 - (wrap64 (t149 * a0_2)))))) * (wrap64 (a0_2 - (wrap64 (t148 - (wrap64 (t150 * a0_2)))))))) * ((rd_T28 l0_3 (wrap64 ((wrap64 (t150 * a0_0)) + t149))).f1))) + (wrap64 ((wrap64 ((wrap64 (t147 - (wrap64 (t149 * a0_2)))) * (wrap64 (a0_2 - (wrap64 (t148 - (wrap64 (t150 * a0_2)))))))) * ((rd_T28 l0_3 (wrap64 ((wrap64 ((wrap64 (t150 * a0_0)) + t149)) + 1))).f1))))) + (wrap64 ((wrap64 ((wrap64 (a0_2 - (wrap64 (t147 - (wrap64 (t149 * a0_2)))))) * (wrap64 (t148 - (wrap64 (t150 * a0_2)))))) * ((rd_T28 l0_3 (wrap64 ((wrap64 ((wrap64 (t150 + 1)) * a0_0)) + t149))).f1))))) + (wrap64 ((wrap64 ((wrap64 (t147 - (wrap64 (t149 * a0_2)))) * (wrap64 (t148 - (wrap64 (t150 * a0_2)))))) * ((rd_T28 l0_3 (wrap64 ((wrap64 ((wrap64 ((wrap64 (t150 + 1)) * a0_0)) + t149)) + 1))).f1))))) (wrap64 (a0_2 * a0_2))).bind fun t160 => (some (t159, t160)))) else (none)) else (none)) else (none)) else (none)) else (none)) else (none)) else (none)) else (none))))))) else (some (0, 0))) = some (r1, r2) := H
 have A4 := Aside0.mk A40
 clear A40
 by_cases c5 : t146 = 0
 ·rw [if_pos c5] at H
  have c5b0 : (t146 == 0) = true := beq_iff_eq.mpr c5
  have c5b1 : (t146 != 0) = false := bne_eq_false_iff_eq.mpr c5
  clear c5
  replace H := Option.bind_eq_some_iff.mp H
  obtain ⟨t147, A60, H⟩ := H
  replace H : ((imageeditorref01_Clamp.f a2 0 (wrap64 ((wrap64 (a0_1 - 1)) * a0_2))).bind fun t148 => (if a0_2 = 0 then (none) else ((imageeditorref01_Clamp.f (wrap64 (Int.tdiv t147 a0_2)) 0 (wrap64 (a0_0 - 2))).bind fun t149 => ((imageeditorref01_Clamp.f (wrap64 (Int.tdiv t148 a0_2)) 0 (wrap64 (a0_1 - 2))).bind fun t150 => (if 0 ≤ (wrap64 ((wrap64 (t150 * a0_0)) + t149)) then (if (wrap64 ((wrap64 (t150 * a0_0)) + t149)) < (l0_3.length : Int) then (if 0 ≤ (wrap64 ((wrap64 ((wrap64 (t150 * a0_0)) + t149)) + 1)) then (if (wrap64 ((wrap64 ((wrap64 (t150 * a0_0)) + t149)) + 1)) < (l0_3.length : Int) then (if 0 ≤ (wrap64 ((wrap64 ((wrap64 (t150 + 1)) * a0_0)) + t149)) then (if (wrap64 ((wrap64 ((wrap64 (t150 + 1)) * a0_0)) + t149)) < (l0_3.length : Int) then (if 0 ≤ (wrap64 ((wrap64 ((wrap64 ((wrap64 (t150 + 1)) * a0_0)) + t149)) + 1)) then (if (wrap64 ((wrap64 ((wrap64 ((wrap64 (t150 + 1)) * a0_0)) + t149)) + 1)) < (l0_3.length : Int) then ((imageeditorref01_Div.f k (wrap64 ((wrap64 ((wrap64 ((wrap64 ((wrap64 ((wrap64 (a0_2 - (wrap64 (t147 - (wrap64 (t149 * a0_2)))))) * (wrap64 (a0_2 - (wrap64 (t148 - (wrap64 (t150 * a0_2)))))))) * ((rd_T28 l0_3 (wrap64 ((wrap64 (t150 * a0_0)) + t149))).f0))) + (wrap64 ((wrap64 ((wrap64 (t147 - (wrap64 (t149 * a0_2)))) * (wrap64 (a0_2 - (wrap64 (t148 - (wrap64 (t150 * a0_2)))))))) * ((rd_T28 l0_3 (wrap64 ((wrap64 ((wrap64 (t150 * a0_0)) + t149)) + 1))).f0))))) + (wrap64 ((wrap64 ((wrap64 (a0_2 - (wrap64 (t147 - (wrap64 (t149 * a0_2)))))) * (wrap64 (t148 - (wrap64 (t150 * a0_2)))))) * ((rd_T28 l0_3 (wrap64 ((wrap64 ((wrap64 (t150 + 1)) * a0_0)) + t149))).f0))))) + (wrap64 ((wrap64 ((wrap64 (t147 - (wrap64 (t149 * a0_2)))) * (wrap64 (t148 - (wrap64 (t150 * a0_2)))))) * ((rd_T28 l0_3 (wrap64 ((wrap64 ((wrap64 ((wrap64 (t150 + 1)) * a0_0)) + t149)) + 1))).f0))))) (wrap64 (a0_2 * a0_2))).bind fun t159 => ((imageeditorref01_Div.f k (wrap64 ((wrap64 ((wrap64 ((wrap64 ((wrap64 ((wrap64 (a0_2 - (wrap64 (t147 - (wrap64 (t149 * a0_2)))))) * (wrap64 (a0_2 - (wrap64 (t148 - (wrap64 (t150 * a0_2)))))))) * ((rd_T28 l0_3 (wrap64 ((wrap64 (t150 * a0_0)) + t149))).f1))) + (wrap64 ((wrap64 ((wrap64 (t147 - (wrap64 (t149 * a0_2)))) * (wrap64 (a0_2 - (wrap64 (t148 - (wrap64 (t150 * a0_2)))))))) * ((rd_T28 l0_3 (wrap64 ((wrap64 ((wrap64 (t150 * a0_0)) + t149)) + 1))).f1))))) + (wrap64 ((wrap64 ((wrap64 (a0_2 - (wrap64 (t147 - (wrap64 (t149 * a0_2)))))) * (wrap64 (t148 - (wrap64 (t150 * a0_2)))))) * ((rd_T28 l0_3 (wrap64 ((wrap64 ((wrap64 (t150 + 1)) * a0_0)) + t149))).f1))))) + (wrap64 ((wrap64 ((wrap64 (t147 - (wrap64 (t149 * a0_2)))) * (wrap64 (t148 - (wrap64 (t150 * a0_2)))))) * ((rd_T28 l0_3 (wrap64 ((wrap64 ((wrap64 ((wrap64 (t150 + 1)) * a0_0)) + t149)) + 1))).f1))))) (wrap64 (a0_2 * a0_2))).bind fun t160 => (some (t159, t160)))) else (none)) else (none)) else (none)) else (none)) else (none)) else (none)) else (none)) else (none)))))) = some (r1, r2) := H
  have A6 := Aside0.mk A60
  clear A60
  replace H := Option.bind_eq_some_iff.mp H
  obtain ⟨t148, A70, H⟩ := H
  replace H : (if a0_2 = 0 then (none) else ((imageeditorref01_Clamp.f (wrap64 (Int.tdiv t147 a0_2)) 0 (wrap64 (a0_0 - 2))).bind fun t149 => ((imageeditorref01_Clamp.f (wrap64 (Int.tdiv t148 a0_2)) 0 (wrap64 (a0_1 - 2))).bind fun t150 => (if 0 ≤ (wrap64 ((wrap64 (t150 * a0_0)) + t149)) then (if (wrap64 ((wrap64 (t150 * a0_0)) + t149)) < (l0_3.length : Int) then (if 0 ≤ (wrap64 ((wrap64 ((wrap64 (t150 * a0_0)) + t149)) + 1)) then (if (wrap64 ((wrap64 ((wrap64 (t150 * a0_0)) + t149)) + 1)) < (l0_3.length : Int) then (if 0 ≤ (wrap64 ((wrap64 ((wrap64 (t150 + 1)) * a0_0)) + t149)) then (if (wrap64 ((wrap64 ((wrap64 (t150 + 1)) * a0_0)) + t149)) < (l0_3.length : Int) then (if 0 ≤ (wrap64 ((wrap64 ((wrap64 ((wrap64 (t150 + 1)) * a0_0)) + t149)) + 1)) then (if (wrap64 ((wrap64 ((wrap64 ((wrap64 (t150 + 1)) * a0_0)) + t149)) + 1)) < (l0_3.length : Int) then ((imageeditorref01_Div.f k (wrap64 ((wrap64 ((wrap64 ((wrap64 ((wrap64 ((wrap64 (a0_2 - (wrap64 (t147 - (wrap64 (t149 * a0_2)))))) * (wrap64 (a0_2 - (wrap64 (t148 - (wrap64 (t150 * a0_2)))))))) * ((rd_T28 l0_3 (wrap64 ((wrap64 (t150 * a0_0)) + t149))).f0))) + (wrap64 ((wrap64 ((wrap64 (t147 - (wrap64 (t149 * a0_2)))) * (wrap64 (a0_2 - (wrap64 (t148 - (wrap64 (t150 * a0_2)))))))) * ((rd_T28 l0_3 (wrap64 ((wrap64 ((wrap64 (t150 * a0_0)) + t149)) + 1))).f0))))) + (wrap64 ((wrap64 ((wrap64 (a0_2 - (wrap64 (t147 - (wrap64 (t149 * a0_2)))))) * (wrap64 (t148 - (wrap64 (t150 * a0_2)))))) * ((rd_T28 l0_3 (wrap64 ((wrap64 ((wrap64 (t150 + 1)) * a0_0)) + t149))).f0))))) + (wrap64 ((wrap64 ((wrap64 (t147 - (wrap64 (t149 * a0_2)))) * (wrap64 (t148 - (wrap64 (t150 * a0_2)))))) * ((rd_T28 l0_3 (wrap64 ((wrap64 ((wrap64 ((wrap64 (t150 + 1)) * a0_0)) + t149)) + 1))).f0))))) (wrap64 (a0_2 * a0_2))).bind fun t159 => ((imageeditorref01_Div.f k (wrap64 ((wrap64 ((wrap64 ((wrap64 ((wrap64 ((wrap64 (a0_2 - (wrap64 (t147 - (wrap64 (t149 * a0_2)))))) * (wrap64 (a0_2 - (wrap64 (t148 - (wrap64 (t150 * a0_2)))))))) * ((rd_T28 l0_3 (wrap64 ((wrap64 (t150 * a0_0)) + t149))).f1))) + (wrap64 ((wrap64 ((wrap64 (t147 - (wrap64 (t149 * a0_2)))) * (wrap64 (a0_2 - (wrap64 (t148 - (wrap64 (t150 * a0_2)))))))) * ((rd_T28 l0_3 (wrap64 ((wrap64 ((wrap64 (t150 * a0_0)) + t149)) + 1))).f1))))) + (wrap64 ((wrap64 ((wrap64 (a0_2 - (wrap64 (t147 - (wrap64 (t149 * a0_2)))))) * (wrap64 (t148 - (wrap64 (t150 * a0_2)))))) * ((rd_T28 l0_3 (wrap64 ((wrap64 ((wrap64 (t150 + 1)) * a0_0)) + t149))).f1))))) + (wrap64 ((wrap64 ((wrap64 (t147 - (wrap64 (t149 * a0_2)))) * (wrap64 (t148 - (wrap64 (t150 * a0_2)))))) * ((rd_T28 l0_3 (wrap64 ((wrap64 ((wrap64 ((wrap64 (t150 + 1)) * a0_0)) + t149)) + 1))).f1))))) (wrap64 (a0_2 * a0_2))).bind fun t160 => (some (t159, t160)))) else (none)) else (none)) else (none)) else (none)) else (none)) else (none)) else (none)) else (none))))) = some (r1, r2) := H
  have A7 := Aside0.mk A70
  clear A70
  by_cases c8 : a0_2 = 0
  ·rw [if_pos c8] at H
   exact absurd H (by simp)
  ·rw [if_neg c8] at H
   have c8b0 : (a0_2 == 0) = false := beq_eq_false_iff_ne.mpr c8
   have c8b1 : (a0_2 != 0) = true := bne_iff_ne.mpr c8
   replace H := Option.bind_eq_some_iff.mp H
   obtain ⟨t149, A90, H⟩ := H
   replace H : ((imageeditorref01_Clamp.f (wrap64 (Int.tdiv t148 a0_2)) 0 (wrap64 (a0_1 - 2))).bind fun t150 => (if 0 ≤ (wrap64 ((wrap64 (t150 * a0_0)) + t149)) then (if (wrap64 ((wrap64 (t150 * a0_0)) + t149)) < (l0_3.length : Int) then (if 0 ≤ (wrap64 ((wrap64 ((wrap64 (t150 * a0_0)) + t149)) + 1)) then (if (wrap64 ((wrap64 ((wrap64 (t150 * a0_0)) + t149)) + 1)) < (l0_3.length : Int) then (if 0 ≤ (wrap64 ((wrap64 ((wrap64 (t150 + 1)) * a0_0)) + t149)) then (if (wrap64 ((wrap64 ((wrap64 (t150 + 1)) * a0_0)) + t149)) < (l0_3.length : Int) then (if 0 ≤ (wrap64 ((wrap64 ((wrap64 ((wrap64 (t150 + 1)) * a0_0)) + t149)) + 1)) then (if (wrap64 ((wrap64 ((wrap64 ((wrap64 (t150 + 1)) * a0_0)) + t149)) + 1)) < (l0_3.length : Int) then ((imageeditorref01_Div.f k (wrap64 ((wrap64 ((wrap64 ((wrap64 ((wrap64 ((wrap64 (a0_2 - (wrap64 (t147 - (wrap64 (t149 * a0_2)))))) * (wrap64 (a0_2 - (wrap64 (t148 - (wrap64 (t150 * a0_2)))))))) * ((rd_T28 l0_3 (wrap64 ((wrap64 (t150 * a0_0)) + t149))).f0))) + (wrap64 ((wrap64 ((wrap64 (t147 - (wrap64 (t149 * a0_2)))) * (wrap64 (a0_2 - (wrap64 (t148 - (wrap64 (t150 * a0_2)))))))) * ((rd_T28 l0_3 (wrap64 ((wrap64 ((wrap64 (t150 * a0_0)) + t149)) + 1))).f0))))) + (wrap64 ((wrap64 ((wrap64 (a0_2 - (wrap64 (t147 - (wrap64 (t149 * a0_2)))))) * (wrap64 (t148 - (wrap64 (t150 * a0_2)))))) * ((rd_T28 l0_3 (wrap64 ((wrap64 ((wrap64 (t150 + 1)) * a0_0)) + t149))).f0))))) + (wrap64 ((wrap64 ((wrap64 (t147 - (wrap64 (t149 * a0_2)))) * (wrap64 (t148 - (wrap64 (t150 * a0_2)))))) * ((rd_T28 l0_3 (wrap64 ((wrap64 ((wrap64 ((wrap64 (t150 + 1)) * a0_0)) + t149)) + 1))).f0))))) (wrap64 (a0_2 * a0_2))).bind fun t159 => ((imageeditorref01_Div.f k (wrap64 ((wrap64 ((wrap64 ((wrap64 ((wrap64 ((wrap64 (a0_2 - (wrap64 (t147 - (wrap64 (t149 * a0_2)))))) * (wrap64 (a0_2 - (wrap64 (t148 - (wrap64 (t150 * a0_2)))))))) * ((rd_T28 l0_3 (wrap64 ((wrap64 (t150 * a0_0)) + t149))).f1))) + (wrap64 ((wrap64 ((wrap64 (t147 - (wrap64 (t149 * a0_2)))) * (wrap64 (a0_2 - (wrap64 (t148 - (wrap64 (t150 * a0_2)))))))) * ((rd_T28 l0_3 (wrap64 ((wrap64 ((wrap64 (t150 * a0_0)) + t149)) + 1))).f1))))) + (wrap64 ((wrap64 ((wrap64 (a0_2 - (wrap64 (t147 - (wrap64 (t149 * a0_2)))))) * (wrap64 (t148 - (wrap64 (t150 * a0_2)))))) * ((rd_T28 l0_3 (wrap64 ((wrap64 ((wrap64 (t150 + 1)) * a0_0)) + t149))).f1))))) + (wrap64 ((wrap64 ((wrap64 (t147 - (wrap64 (t149 * a0_2)))) * (wrap64 (t148 - (wrap64 (t150 * a0_2)))))) * ((rd_T28 l0_3 (wrap64 ((wrap64 ((wrap64 ((wrap64 (t150 + 1)) * a0_0)) + t149)) + 1))).f1))))) (wrap64 (a0_2 * a0_2))).bind fun t160 => (some (t159, t160)))) else (none)) else (none)) else (none)) else (none)) else (none)) else (none)) else (none)) else (none))) = some (r1, r2) := H
   have A9 := Aside0.mk A90
   clear A90
   replace H := Option.bind_eq_some_iff.mp H
   obtain ⟨t150, A100, H⟩ := H
   replace H : (if 0 ≤ (wrap64 ((wrap64 (t150 * a0_0)) + t149)) then (if (wrap64 ((wrap64 (t150 * a0_0)) + t149)) < (l0_3.length : Int) then (if 0 ≤ (wrap64 ((wrap64 ((wrap64 (t150 * a0_0)) + t149)) + 1)) then (if (wrap64 ((wrap64 ((wrap64 (t150 * a0_0)) + t149)) + 1)) < (l0_3.length : Int) then (if 0 ≤ (wrap64 ((wrap64 ((wrap64 (t150 + 1)) * a0_0)) + t149)) then (if (wrap64 ((wrap64 ((wrap64 (t150 + 1)) * a0_0)) + t149)) < (l0_3.length : Int) then (if 0 ≤ (wrap64 ((wrap64 ((wrap64 ((wrap64 (t150 + 1)) * a0_0)) + t149)) + 1)) then (if (wrap64 ((wrap64 ((wrap64 ((wrap64 (t150 + 1)) * a0_0)) + t149)) + 1)) < (l0_3.length : Int) then ((imageeditorref01_Div.f k (wrap64 ((wrap64 ((wrap64 ((wrap64 ((wrap64 ((wrap64 (a0_2 - (wrap64 (t147 - (wrap64 (t149 * a0_2)))))) * (wrap64 (a0_2 - (wrap64 (t148 - (wrap64 (t150 * a0_2)))))))) * ((rd_T28 l0_3 (wrap64 ((wrap64 (t150 * a0_0)) + t149))).f0))) + (wrap64 ((wrap64 ((wrap64 (t147 - (wrap64 (t149 * a0_2)))) * (wrap64 (a0_2 - (wrap64 (t148 - (wrap64 (t150 * a0_2)))))))) * ((rd_T28 l0_3 (wrap64 ((wrap64 ((wrap64 (t150 * a0_0)) + t149)) + 1))).f0))))) + (wrap64 ((wrap64 ((wrap64 (a0_2 - (wrap64 (t147 - (wrap64 (t149 * a0_2)))))) * (wrap64 (t148 - (wrap64 (t150 * a0_2)))))) * ((rd_T28 l0_3 (wrap64 ((wrap64 ((wrap64 (t150 + 1)) * a0_0)) + t149))).f0))))) + (wrap64 ((wrap64 ((wrap64 (t147 - (wrap64 (t149 * a0_2)))) * (wrap64 (t148 - (wrap64 (t150 * a0_2)))))) * ((rd_T28 l0_3 (wrap64 ((wrap64 ((wrap64 ((wrap64 (t150 + 1)) * a0_0)) + t149)) + 1))).f0))))) (wrap64 (a0_2 * a0_2))).bind fun t159 => ((imageeditorref01_Div.f k (wrap64 ((wrap64 ((wrap64 ((wrap64 ((wrap64 ((wrap64 (a0_2 - (wrap64 (t147 - (wrap64 (t149 * a0_2)))))) * (wrap64 (a0_2 - (wrap64 (t148 - (wrap64 (t150 * a0_2)))))))) * ((rd_T28 l0_3 (wrap64 ((wrap64 (t150 * a0_0)) + t149))).f1))) + (wrap64 ((wrap64 ((wrap64 (t147 - (wrap64 (t149 * a0_2)))) * (wrap64 (a0_2 - (wrap64 (t148 - (wrap64 (t150 * a0_2)))))))) * ((rd_T28 l0_3 (wrap64 ((wrap64 ((wrap64 (t150 * a0_0)) + t149)) + 1))).f1))))) + (wrap64 ((wrap64 ((wrap64 (a0_2 - (wrap64 (t147 - (wrap64 (t149 * a0_2)))))) * (wrap64 (t148 - (wrap64 (t150 * a0_2)))))) * ((rd_T28 l0_3 (wrap64 ((wrap64 ((wrap64 (t150 + 1)) * a0_0)) + t149))).f1))))) + (wrap64 ((wrap64 ((wrap64 (t147 - (wrap64 (t149 * a0_2)))) * (wrap64 (t148 - (wrap64 (t150 * a0_2)))))) * ((rd_T28 l0_3 (wrap64 ((wrap64 ((wrap64 ((wrap64 (t150 + 1)) * a0_0)) + t149)) + 1))).f1))))) (wrap64 (a0_2 * a0_2))).bind fun t160 => (some (t159, t160)))) else (none)) else (none)) else (none)) else (none)) else (none)) else (none)) else (none)) else (none)) = some (r1, r2) := H
   have A10 := Aside0.mk A100
   clear A100
   obtain ⟨ji11, hji11⟩ : ∃ j_ : Int, (wrap64 ((wrap64 (t150 * a0_0)) + t149)) = j_ := ⟨_, rfl⟩
   replace H : (if 0 ≤ (ji11) then (if (ji11) < (l0_3.length : Int) then (if 0 ≤ (wrap64 ((ji11) + 1)) then (if (wrap64 ((ji11) + 1)) < (l0_3.length : Int) then (if 0 ≤ (wrap64 ((wrap64 ((wrap64 (t150 + 1)) * a0_0)) + t149)) then (if (wrap64 ((wrap64 ((wrap64 (t150 + 1)) * a0_0)) + t149)) < (l0_3.length : Int) then (if 0 ≤ (wrap64 ((wrap64 ((wrap64 ((wrap64 (t150 + 1)) * a0_0)) + t149)) + 1)) then (if (wrap64 ((wrap64 ((wrap64 ((wrap64 (t150 + 1)) * a0_0)) + t149)) + 1)) < (l0_3.length : Int) then ((imageeditorref01_Div.f k (wrap64 ((wrap64 ((wrap64 ((wrap64 ((wrap64 ((wrap64 (a0_2 - (wrap64 (t147 - (wrap64 (t149 * a0_2)))))) * (wrap64 (a0_2 - (wrap64 (t148 - (wrap64 (t150 * a0_2)))))))) * ((rd_T28 l0_3 (ji11)).f0))) + (wrap64 ((wrap64 ((wrap64 (t147 - (wrap64 (t149 * a0_2)))) * (wrap64 (a0_2 - (wrap64 (t148 - (wrap64 (t150 * a0_2)))))))) * ((rd_T28 l0_3 (wrap64 ((ji11) + 1))).f0))))) + (wrap64 ((wrap64 ((wrap64 (a0_2 - (wrap64 (t147 - (wrap64 (t149 * a0_2)))))) * (wrap64 (t148 - (wrap64 (t150 * a0_2)))))) * ((rd_T28 l0_3 (wrap64 ((wrap64 ((wrap64 (t150 + 1)) * a0_0)) + t149))).f0))))) + (wrap64 ((wrap64 ((wrap64 (t147 - (wrap64 (t149 * a0_2)))) * (wrap64 (t148 - (wrap64 (t150 * a0_2)))))) * ((rd_T28 l0_3 (wrap64 ((wrap64 ((wrap64 ((wrap64 (t150 + 1)) * a0_0)) + t149)) + 1))).f0))))) (wrap64 (a0_2 * a0_2))).bind fun t159 => ((imageeditorref01_Div.f k (wrap64 ((wrap64 ((wrap64 ((wrap64 ((wrap64 ((wrap64 (a0_2 - (wrap64 (t147 - (wrap64 (t149 * a0_2)))))) * (wrap64 (a0_2 - (wrap64 (t148 - (wrap64 (t150 * a0_2)))))))) * ((rd_T28 l0_3 (ji11)).f1))) + (wrap64 ((wrap64 ((wrap64 (t147 - (wrap64 (t149 * a0_2)))) * (wrap64 (a0_2 - (wrap64 (t148 - (wrap64 (t150 * a0_2)))))))) * ((rd_T28 l0_3 (wrap64 ((ji11) + 1))).f1))))) + (wrap64 ((wrap64 ((wrap64 (a0_2 - (wrap64 (t147 - (wrap64 (t149 * a0_2)))))) * (wrap64 (t148 - (wrap64 (t150 * a0_2)))))) * ((rd_T28 l0_3 (wrap64 ((wrap64 ((wrap64 (t150 + 1)) * a0_0)) + t149))).f1))))) + (wrap64 ((wrap64 ((wrap64 (t147 - (wrap64 (t149 * a0_2)))) * (wrap64 (t148 - (wrap64 (t150 * a0_2)))))) * ((rd_T28 l0_3 (wrap64 ((wrap64 ((wrap64 ((wrap64 (t150 + 1)) * a0_0)) + t149)) + 1))).f1))))) (wrap64 (a0_2 * a0_2))).bind fun t160 => (some (t159, t160)))) else (none)) else (none)) else (none)) else (none)) else (none)) else (none)) else (none)) else (none)) = some (r1, r2) := by first | (rw [hji11] at H; exact H) | (simp only [hji11] at H ⊢; exact H)
   (try rw [hji11] at A4)
   (try rw [hji11] at A6)
   (try rw [hji11] at A7)
   (try rw [hji11] at A9)
   (try rw [hji11] at A10)
   have hji11w : (IntKind.i64.wrap ((wrap64 (t150 * a0_0)) + t149)) = ji11 := (i64_w _).trans hji11
   by_cases c12 : 0 ≤ (ji11)
   ·rw [if_pos c12] at H
    have c12b0 : decide (0 ≤ (ji11)) = true := decide_eq_true c12
    clear c12
    by_cases c13 : (ji11) < (l0_3.length : Int)
    ·rw [if_pos c13] at H
     have c13b0 : decide ((ji11) < (l0_3.length : Int)) = true := decide_eq_true c13
     clear c13
     obtain ⟨ji14, hji14⟩ : ∃ j_ : Int, (wrap64 ((ji11) + 1)) = j_ := ⟨_, rfl⟩
     replace H : (if 0 ≤ (ji14) then (if (ji14) < (l0_3.length : Int) then (if 0 ≤ (wrap64 ((wrap64 ((wrap64 (t150 + 1)) * a0_0)) + t149)) then (if (wrap64 ((wrap64 ((wrap64 (t150 + 1)) * a0_0)) + t149)) < (l0_3.length : Int) then (if 0 ≤ (wrap64 ((wrap64 ((wrap64 ((wrap64 (t150 + 1)) * a0_0)) + t149)) + 1)) then (if (wrap64 ((wrap64 ((wrap64 ((wrap64 (t150 + 1)) * a0_0)) + t149)) + 1)) < (l0_3.length : Int) then ((imageeditorref01_Div.f k (wrap64 ((wrap64 ((wrap64 ((wrap64 ((wrap64 ((wrap64 (a0_2 - (wrap64 (t147 - (wrap64 (t149 * a0_2)))))) * (wrap64 (a0_2 - (wrap64 (t148 - (wrap64 (t150 * a0_2)))))))) * ((rd_T28 l0_3 (ji11)).f0))) + (wrap64 ((wrap64 ((wrap64 (t147 - (wrap64 (t149 * a0_2)))) * (wrap64 (a0_2 - (wrap64 (t148 - (wrap64 (t150 * a0_2)))))))) * ((rd_T28 l0_3 (ji14)).f0))))) + (wrap64 ((wrap64 ((wrap64 (a0_2 - (wrap64 (t147 - (wrap64 (t149 * a0_2)))))) * (wrap64 (t148 - (wrap64 (t150 * a0_2)))))) * ((rd_T28 l0_3 (wrap64 ((wrap64 ((wrap64 (t150 + 1)) * a0_0)) + t149))).f0))))) + (wrap64 ((wrap64 ((wrap64 (t147 - (wrap64 (t149 * a0_2)))) * (wrap64 (t148 - (wrap64 (t150 * a0_2)))))) * ((rd_T28 l0_3 (wrap64 ((wrap64 ((wrap64 ((wrap64 (t150 + 1)) * a0_0)) + t149)) + 1))).f0))))) (wrap64 (a0_2 * a0_2))).bind fun t159 => ((imageeditorref01_Div.f k (wrap64 ((wrap64 ((wrap64 ((wrap64 ((wrap64 ((wrap64 (a0_2 - (wrap64 (t147 - (wrap64 (t149 * a0_2)))))) * (wrap64 (a0_2 - (wrap64 (t148 - (wrap64 (t150 * a0_2)))))))) * ((rd_T28 l0_3 (ji11)).f1))) + (wrap64 ((wrap64 ((wrap64 (t147 - (wrap64 (t149 * a0_2)))) * (wrap64 (a0_2 - (wrap64 (t148 - (wrap64 (t150 * a0_2)))))))) * ((rd_T28 l0_3 (ji14)).f1))))) + (wrap64 ((wrap64 ((wrap64 (a0_2 - (wrap64 (t147 - (wrap64 (t149 * a0_2)))))) * (wrap64 (t148 - (wrap64 (t150 * a0_2)))))) * ((rd_T28 l0_3 (wrap64 ((wrap64 ((wrap64 (t150 + 1)) * a0_0)) + t149))).f1))))) + (wrap64 ((wrap64 ((wrap64 (t147 - (wrap64 (t149 * a0_2)))) * (wrap64 (t148 - (wrap64 (t150 * a0_2)))))) * ((rd_T28 l0_3 (wrap64 ((wrap64 ((wrap64 ((wrap64 (t150 + 1)) * a0_0)) + t149)) + 1))).f1))))) (wrap64 (a0_2 * a0_2))).bind fun t160 => (some (t159, t160)))) else (none)) else (none)) else (none)) else (none)) else (none)) else (none)) = some (r1, r2) := by first | (rw [hji14] at H; exact H) | (simp only [hji14] at H ⊢; exact H)
     (try rw [hji14] at A4)
     (try rw [hji14] at A6)
     (try rw [hji14] at A7)
     (try rw [hji14] at A9)
     (try rw [hji14] at A10)
     have hji14w : (IntKind.i64.wrap ((ji11) + 1)) = ji14 := (i64_w _).trans hji14
     by_cases c15 : 0 ≤ (ji14)
     ·rw [if_pos c15] at H
      have c15b0 : decide (0 ≤ (ji14)) = true := decide_eq_true c15
      clear c15
      by_cases c16 : (ji14) < (l0_3.length : Int)
      ·rw [if_pos c16] at H
       have c16b0 : decide ((ji14) < (l0_3.length : Int)) = true := decide_eq_true c16
       clear c16
       obtain ⟨ji17, hji17⟩ : ∃ j_ : Int, (wrap64 ((wrap64 ((wrap64 (t150 + 1)) * a0_0)) + t149)) = j_ := ⟨_, rfl⟩
       replace H : (if 0 ≤ (ji17) then (if (ji17) < (l0_3.length : Int) then (if 0 ≤ (wrap64 ((ji17) + 1)) then (if (wrap64 ((ji17) + 1)) < (l0_3.length : Int) then ((imageeditorref01_Div.f k (wrap64 ((wrap64 ((wrap64 ((wrap64 ((wrap64 ((wrap64 (a0_2 - (wrap64 (t147 - (wrap64 (t149 * a0_2)))))) * (wrap64 (a0_2 - (wrap64 (t148 - (wrap64 (t150 * a0_2)))))))) * ((rd_T28 l0_3 (ji11)).f0))) + (wrap64 ((wrap64 ((wrap64 (t147 - (wrap64 (t149 * a0_2)))) * (wrap64 (a0_2 - (wrap64 (t148 - (wrap64 (t150 * a0_2)))))))) * ((rd_T28 l0_3 (ji14)).f0))))) + (wrap64 ((wrap64 ((wrap64 (a0_2 - (wrap64 (t147 - (wrap64 (t149 * a0_2)))))) * (wrap64 (t148 - (wrap64 (t150 * a0_2)))))) * ((rd_T28 l0_3 (ji17)).f0))))) + (wrap64 ((wrap64 ((wrap64 (t147 - (wrap64 (t149 * a0_2)))) * (wrap64 (t148 - (wrap64 (t150 * a0_2)))))) * ((rd_T28 l0_3 (wrap64 ((ji17) + 1))).f0))))) (wrap64 (a0_2 * a0_2))).bind fun t159 => ((imageeditorref01_Div.f k (wrap64 ((wrap64 ((wrap64 ((wrap64 ((wrap64 ((wrap64 (a0_2 - (wrap64 (t147 - (wrap64 (t149 * a0_2)))))) * (wrap64 (a0_2 - (wrap64 (t148 - (wrap64 (t150 * a0_2)))))))) * ((rd_T28 l0_3 (ji11)).f1))) + (wrap64 ((wrap64 ((wrap64 (t147 - (wrap64 (t149 * a0_2)))) * (wrap64 (a0_2 - (wrap64 (t148 - (wrap64 (t150 * a0_2)))))))) * ((rd_T28 l0_3 (ji14)).f1))))) + (wrap64 ((wrap64 ((wrap64 (a0_2 - (wrap64 (t147 - (wrap64 (t149 * a0_2)))))) * (wrap64 (t148 - (wrap64 (t150 * a0_2)))))) * ((rd_T28 l0_3 (ji17)).f1))))) + (wrap64 ((wrap64 ((wrap64 (t147 - (wrap64 (t149 * a0_2)))) * (wrap64 (t148 - (wrap64 (t150 * a0_2)))))) * ((rd_T28 l0_3 (wrap64 ((ji17) + 1))).f1))))) (wrap64 (a0_2 * a0_2))).bind fun t160 => (some (t159, t160)))) else (none)) else (none)) else (none)) else (none)) = some (r1, r2) := by first | (rw [hji17] at H; exact H) | (simp only [hji17] at H ⊢; exact H)
       (try rw [hji17] at A4)
       (try rw [hji17] at A6)
       (try rw [hji17] at A7)
       (try rw [hji17] at A9)
       (try rw [hji17] at A10)
       have hji17w : (IntKind.i64.wrap ((wrap64 ((wrap64 (t150 + 1)) * a0_0)) + t149)) = ji17 := (i64_w _).trans hji17
       by_cases c18 : 0 ≤ (ji17)
       ·rw [if_pos c18] at H
        have c18b0 : decide (0 ≤ (ji17)) = true := decide_eq_true c18
        clear c18
        by_cases c19 : (ji17) < (l0_3.length : Int)
        ·rw [if_pos c19] at H
         have c19b0 : decide ((ji17) < (l0_3.length : Int)) = true := decide_eq_true c19
         clear c19
         obtain ⟨ji20, hji20⟩ : ∃ j_ : Int, (wrap64 ((ji17) + 1)) = j_ := ⟨_, rfl⟩
         replace H : (if 0 ≤ (ji20) then (if (ji20) < (l0_3.length : Int) then ((imageeditorref01_Div.f k (wrap64 ((wrap64 ((wrap64 ((wrap64 ((wrap64 ((wrap64 (a0_2 - (wrap64 (t147 - (wrap64 (t149 * a0_2)))))) * (wrap64 (a0_2 - (wrap64 (t148 - (wrap64 (t150 * a0_2)))))))) * ((rd_T28 l0_3 (ji11)).f0))) + (wrap64 ((wrap64 ((wrap64 (t147 - (wrap64 (t149 * a0_2)))) * (wrap64 (a0_2 - (wrap64 (t148 - (wrap64 (t150 * a0_2)))))))) * ((rd_T28 l0_3 (ji14)).f0))))) + (wrap64 ((wrap64 ((wrap64 (a0_2 - (wrap64 (t147 - (wrap64 (t149 * a0_2)))))) * (wrap64 (t148 - (wrap64 (t150 * a0_2)))))) * ((rd_T28 l0_3 (ji17)).f0))))) + (wrap64 ((wrap64 ((wrap64 (t147 - (wrap64 (t149 * a0_2)))) * (wrap64 (t148 - (wrap64 (t150 * a0_2)))))) * ((rd_T28 l0_3 (ji20)).f0))))) (wrap64 (a0_2 * a0_2))).bind fun t159 => ((imageeditorref01_Div.f k (wrap64 ((wrap64 ((wrap64 ((wrap64 ((wrap64 ((wrap64 (a0_2 - (wrap64 (t147 - (wrap64 (t149 * a0_2)))))) * (wrap64 (a0_2 - (wrap64 (t148 - (wrap64 (t150 * a0_2)))))))) * ((rd_T28 l0_3 (ji11)).f1))) + (wrap64 ((wrap64 ((wrap64 (t147 - (wrap64 (t149 * a0_2)))) * (wrap64 (a0_2 - (wrap64 (t148 - (wrap64 (t150 * a0_2)))))))) * ((rd_T28 l0_3 (ji14)).f1))))) + (wrap64 ((wrap64 ((wrap64 (a0_2 - (wrap64 (t147 - (wrap64 (t149 * a0_2)))))) * (wrap64 (t148 - (wrap64 (t150 * a0_2)))))) * ((rd_T28 l0_3 (ji17)).f1))))) + (wrap64 ((wrap64 ((wrap64 (t147 - (wrap64 (t149 * a0_2)))) * (wrap64 (t148 - (wrap64 (t150 * a0_2)))))) * ((rd_T28 l0_3 (ji20)).f1))))) (wrap64 (a0_2 * a0_2))).bind fun t160 => (some (t159, t160)))) else (none)) else (none)) = some (r1, r2) := by first | (rw [hji20] at H; exact H) | (simp only [hji20] at H ⊢; exact H)
         (try rw [hji20] at A4)
         (try rw [hji20] at A6)
         (try rw [hji20] at A7)
         (try rw [hji20] at A9)
         (try rw [hji20] at A10)
         have hji20w : (IntKind.i64.wrap ((ji17) + 1)) = ji20 := (i64_w _).trans hji20
         by_cases c21 : 0 ≤ (ji20)
         ·rw [if_pos c21] at H
          have c21b0 : decide (0 ≤ (ji20)) = true := decide_eq_true c21
          clear c21
          by_cases c22 : (ji20) < (l0_3.length : Int)
          ·rw [if_pos c22] at H
           have c22b0 : decide ((ji20) < (l0_3.length : Int)) = true := decide_eq_true c22
           clear c22
           replace H := Option.bind_eq_some_iff.mp H
           obtain ⟨t159, A230, H⟩ := H
           replace H : ((imageeditorref01_Div.f k (wrap64 ((wrap64 ((wrap64 ((wrap64 ((wrap64 ((wrap64 (a0_2 - (wrap64 (t147 - (wrap64 (t149 * a0_2)))))) * (wrap64 (a0_2 - (wrap64 (t148 - (wrap64 (t150 * a0_2)))))))) * ((rd_T28 l0_3 (ji11)).f1))) + (wrap64 ((wrap64 ((wrap64 (t147 - (wrap64 (t149 * a0_2)))) * (wrap64 (a0_2 - (wrap64 (t148 - (wrap64 (t150 * a0_2)))))))) * ((rd_T28 l0_3 (ji14)).f1))))) + (wrap64 ((wrap64 ((wrap64 (a0_2 - (wrap64 (t147 - (wrap64 (t149 * a0_2)))))) * (wrap64 (t148 - (wrap64 (t150 * a0_2)))))) * ((rd_T28 l0_3 (ji17)).f1))))) + (wrap64 ((wrap64 ((wrap64 (t147 - (wrap64 (t149 * a0_2)))) * (wrap64 (t148 - (wrap64 (t150 * a0_2)))))) * ((rd_T28 l0_3 (ji20)).f1))))) (wrap64 (a0_2 * a0_2))).bind fun t160 => (some (t159, t160))) = some (r1, r2) := H
           have A23 := Aside0.mk A230
           clear A230
           replace H := Option.bind_eq_some_iff.mp H
           obtain ⟨t160, A240, H⟩ := H
           replace H : (some (t159, t160)) = some (r1, r2) := H
           have A24 := Aside0.mk A240
           clear A240
           simp only [Option.some.injEq, Prod.mk.injEq] at H
           obtain ⟨rfl, rfl⟩ := H
           go_enter Try.func13, Try.ntmps13
           try go_wp2_with (first | ((with_reducible refine gate_dst (N := 3) rfl ?_); refine box_event ?hg (N := 3) ?hd (cs := #[.int .i64 a0_0, .int .i64 a0_1, .int .i64 a0_2, .slice A0_3 l0_3.length c0_3]) (t := 24) ?hr ?_; (case hd => rfl); (case hg => rfl); (case hr => first | (go_simp; done) | (go_simp; rfl)); intro gb144 hg w25 hbox hb; have GW144 := zg HB hg; have GE144 := zg HB hg; have n0_ := Aside0.mk (hbox); replace HB := zb HB hb; have BK144 := n0_; clear n0_; clear hb hbox hg) | ((with_reducible refine gate_dst (N := 6) rfl ?_); refine box_event ?hg (N := 6) ?hd (cs := #[.int .i64 0, .int .i64 0]) (t := 28) ?hr ?_; (case hd => rfl); (case hg => rfl); (case hr => first | (go_simp; done) | (go_simp; rfl)); intro gb145 hg w26 hbox hb; have GW145 := zg HB hg; have GE145 := zg HB hg; have NB144_145 := zn BK144 hg; have NB145_144 := zn' BK144 hg; have n0_ := Aside0.mk (hbox); replace BK144 := zk BK144 hb; replace HB := zb HB hb; have BK145 := n0_; clear n0_; clear hb hbox hg; have hnb27 := NB144_145.out; have hnc27 := NB145_144.out; obtain ⟨hcz28_0, hcz28_1, hcz28_2, hcz28_3, hfz28_0, hfz28_1, hfz28_2, hfz28_3⟩ := zq4 BK144) | ((with_reducible refine gate_callee (f := 11) rfl ?_); refine goesL_ (some 23) rfl rfl Try.func11 (by kernel_rfl) rfl #[.agg #[.int .i64 a0_0, .int .i64 a0_1, .int .i64 a0_2, .slice A0_3 l0_3.length c0_3]] rfl (by (try simp only [List.map_toArray, List.map_cons, List.map_nil]); first | done | rfl | (simp only [List.length_drop, List.length_take]; rfl)) ?_; (with_reducible refine (imageeditorref15_Check.calls k a0_0 a0_1 a0_2 _ _ l0_3 t146 _ ?side1 ?side2 A4.out).mono ?_); (case side1 => repeat (first | exact (Kd.C_below HR0_3.out HB.out) | (with_reducible refine Kd.C_alloc ?_ _) | (with_reducible refine Kd.C_drewN ?_ _) | (with_reducible refine Kd.C_drew ?_))); (case side2 => exact HC0_3.out); rintro e w29 ⟨rfl, hb⟩; refine ⟨_, rfl, ?_⟩; replace BK144 := zk BK144 hb; replace BK145 := zk BK145 hb; replace HB := zb HB hb; (try clear hb); (try clear hb2); (try clear hk); (try clear hi); obtain ⟨hcz30_0, hcz30_1, hcz30_2, hcz30_3, hfz30_0, hfz30_1, hfz30_2, hfz30_3⟩ := zq4 BK144))
           replace BK144 := zkd BK144
           replace BK145 := zkd BK145
           replace HB := zbd HB
           refine start_ (n := 16) (S := fun w' => w'.cell? ⟨gb144, 0, none⟩ = some (.int .i64 a0_0) ∧ w'.cell? ⟨gb144, 1, none⟩ = some (.int .i64 a0_1) ∧ w'.cell? ⟨gb144, 2, none⟩ = some (.int .i64 a0_2) ∧ w'.cell? ⟨gb144, 3, none⟩ = some (.slice A0_3 l0_3.length c0_3)) (ds := []) (bs 16 0) (by kernel_rfl) rfl rfl ⟨(blk_cell BK144.out 0).trans rfl, (blk_cell BK144.out 1).trans rfl, (blk_cell BK144.out 2).trans rfl, (blk_cell BK144.out 3).trans rfl⟩ (fun hHeld => ?_); refine with_tabW imageeditorref15_At.tab4 imageeditorref15_At.bits4 (fun HT_ HW_ => ?_)
           generalize w29.drew = w31 at BK144 BK145 HB hHeld ⊢
           refine pure_ (i := 0) (N := some 28) (v := ?_) (a' := ?_) (bs 16 1) rfl rfl (any_of HT_.out (by kernel_rfl)) (fun _ _ _ h => h) (Or.inl ⟨by rfl, ?_⟩) ?_ ?_
           rotate_left
           ·intro w'
            go_simp
            with_reducible rfl
           rotate_left
           ·simp only [Act.put, sA, sB, sC, i64_w, i32_w]
            rfl
           refine pure_ (i := 1) (N := some 29) (v := ?_) (a' := ?_) (bs 16 3) rfl rfl (any_of HT_.out (by kernel_rfl)) (fun _ _ _ h => h) (Or.inl ⟨by rfl, ?_⟩) ?_ ?_
           rotate_left
           ·intro w'
            go_simp
            with_reducible rfl
           rotate_left
           ·simp only [Act.put, sA, sB, sC, i64_w, i32_w]
            rfl
           refine pure_ (i := 4) (N := some 32) (v := ?_) (a' := ?_) (bs 16 19) rfl rfl (any_of HT_.out (by kernel_rfl)) (fun _ _ _ h => h) (Or.inl ⟨by rfl, ?_⟩) ?_ ?_
           rotate_left
           ·intro w'
            go_simp
            with_reducible rfl
           rotate_left
           ·simp only [Act.put, sA, sB, sC, i64_w, i32_w]
            rfl
           refine pure_ (i := 7) (N := some 35) (v := ?_) (a' := ?_) (bs 16 147) rfl rfl (any_of HT_.out (by kernel_rfl)) (fun _ _ _ h => h) (Or.inl ⟨by rfl, ?_⟩) ?_ ?_
           rotate_left
           ·intro w'
            go_simp
            with_reducible rfl
           rotate_left
           ·simp only [Act.put, sA, sB, sC, i64_w, i32_w]
            rfl
           refine pure_ (i := 8) (N := some 36) (v := ?_) (a' := ?_) (bs 16 403) rfl rfl (any_of HT_.out (by kernel_rfl)) (fun _ _ _ h => h) (Or.inl ⟨by rfl, ?_⟩) ?_ ?_
           rotate_left
           ·intro w'
            go_simp
            with_reducible rfl
           rotate_left
           ·simp only [Act.put, sA, sB, sC, i64_w, i32_w]
            rfl
           refine pure_ (i := 11) (N := some 39) (v := ?_) (a' := ?_) (bs 16 2451) rfl rfl (any_of HT_.out (by kernel_rfl)) (fun _ _ _ h => h) (Or.inl ⟨by rfl, ?_⟩) ?_ ?_
           rotate_left
           ·intro w'
            go_simp
            with_reducible rfl
           rotate_left
           ·simp only [Act.put, sA, sB, sC, i64_w, i32_w]
            rfl
           refine take_ (i := 2) (N := some 30) (v := ?_) (a' := ?_) (bs 16 2455) rfl rfl (take_ofW HT_.out HW_.out (by kernel_rfl)) (fun _ _ _ h => h) (Or.inl ⟨by rfl, ?_⟩) hHeld ?_ ?_
           rotate_left
           ·rintro w' ⟨s0, s1, s2, s3⟩
            go_simp
            with_reducible rfl
           rotate_left
           ·simp only [Act.put, sA, sB, sC, i64_w, i32_w]
            rfl
           refine pure_ (i := 3) (N := some 31) (v := ?_) (a' := ?_) (bs 16 2463) rfl rfl (any_of HT_.out (by kernel_rfl)) (fun _ _ _ h => h) (Or.inl ⟨by rfl, ?_⟩) ?_ ?_
           rotate_left
           ·intro w'
            go_simp
            with_reducible rfl
           rotate_left
           ·simp only [Act.put, sA, sB, sC, i64_w, i32_w]
            rfl
           refine pure_ (i := 5) (N := some 33) (v := ?_) (a' := ?_) (bs 16 2495) rfl rfl (any_of HT_.out (by kernel_rfl)) (fun _ _ _ h => h) (Or.inl ⟨by rfl, ?_⟩) ?_ ?_
           rotate_left
           ·intro w'
            go_simp
            with_reducible rfl
           rotate_left
           ·simp only [Act.put, sA, sB, sC, i64_w, i32_w]
            rfl
           refine take_ (i := 9) (N := some 37) (v := ?_) (a' := ?_) (bs 16 3007) rfl rfl (take_ofW HT_.out HW_.out (by kernel_rfl)) (fun _ _ _ h => h) (Or.inl ⟨by rfl, ?_⟩) hHeld ?_ ?_
           rotate_left
           ·rintro w' ⟨s0, s1, s2, s3⟩
            go_simp
            with_reducible rfl
           rotate_left
           ·simp only [Act.put, sA, sB, sC, i64_w, i32_w]
            rfl
           refine pure_ (i := 10) (N := some 38) (v := ?_) (a' := ?_) (bs 16 4031) rfl rfl (any_of HT_.out (by kernel_rfl)) (fun _ _ _ h => h) (Or.inl ⟨by rfl, ?_⟩) ?_ ?_
           rotate_left
           ·intro w'
            go_simp
            with_reducible rfl
           rotate_left
           ·simp only [Act.put, sA, sB, sC, i64_w, i32_w]
            rfl
           refine pure_ (i := 12) (N := some 40) (v := ?_) (a' := ?_) (bs 16 8127) rfl rfl (any_of HT_.out (by kernel_rfl)) (fun _ _ _ h => h) (Or.inl ⟨by rfl, ?_⟩) ?_ ?_
           rotate_left
           ·intro w'
            go_simp
            with_reducible rfl
           rotate_left
           ·simp only [Act.put, sA, sB, sC, i64_w, i32_w]
            rfl
           refine one_ (i := 6) (N := some 34) (bs 16 8191) rfl rfl (one_of HT_.out (by kernel_rfl)) (by decide) (fun K hK => ?_)
           refine goes_ Try.func30 (by kernel_rfl) rfl #[.int .i64 a1, .int .i64 0, .int .i64 (wrap64 ((wrap64 (a0_0 - 1)) * a0_2))] (by rfl) rfl rfl (by (try simp only [List.map_toArray, List.map_cons, List.map_nil]); first | done | rfl | (simp only [List.length_drop, List.length_take]; rfl)) ?_
           with_reducible refine (imageeditorref01_Clamp.calls a1 0 (wrap64 ((wrap64 (a0_0 - 1)) * a0_2)) t147 _ A6.out).mono ?_
           rintro e w32 ⟨rfl, hb⟩
           refine ⟨_, rfl, ?_⟩
           replace BK144 := zk BK144 hb
           replace BK145 := zk BK145 hb
           replace HB := zb HB hb
           (try clear hb)
           (try clear hb2)
           (try clear hk)
           (try clear hi)
           refine hK.out _ _ ⟨(blk_cell BK144.out 0).trans rfl, (blk_cell BK144.out 1).trans rfl, (blk_cell BK144.out 2).trans rfl, (blk_cell BK144.out 3).trans rfl⟩ (fun hHeld => ?_)
           clear hK K
           refine norm_ (a' := ?_) ?_ ?_
           rotate_left
           ·show Act.put _ (some 34) _ = _
            simp only [Act.put, sA, sB, sC, i64_w, i32_w]
            rfl
           refine one_ (i := 13) (N := some 41) (bs 16 16383) rfl rfl (one_of HT_.out (by kernel_rfl)) (by decide) (fun K hK => ?_)
           refine goes_ Try.func30 (by kernel_rfl) rfl #[.int .i64 a2, .int .i64 0, .int .i64 (wrap64 ((wrap64 (a0_1 - 1)) * a0_2))] (by rfl) rfl rfl (by (try simp only [List.map_toArray, List.map_cons, List.map_nil]); first | done | rfl | (simp only [List.length_drop, List.length_take]; rfl)) ?_
           with_reducible refine (imageeditorref01_Clamp.calls a2 0 (wrap64 ((wrap64 (a0_1 - 1)) * a0_2)) t148 _ A7.out).mono ?_
           rintro e w33 ⟨rfl, hb⟩
           refine ⟨_, rfl, ?_⟩
           replace BK144 := zk BK144 hb
           replace BK145 := zk BK145 hb
           replace HB := zb HB hb
           (try clear hb)
           (try clear hb2)
           (try clear hk)
           (try clear hi)
           refine hK.out _ _ ⟨(blk_cell BK144.out 0).trans rfl, (blk_cell BK144.out 1).trans rfl, (blk_cell BK144.out 2).trans rfl, (blk_cell BK144.out 3).trans rfl⟩ (fun hHeld => ?_)
           clear hK K
           refine norm_ (a' := ?_) ?_ ?_
           rotate_left
           ·show Act.put _ (some 41) _ = _
            simp only [Act.put, sA, sB, sC, i64_w, i32_w]
            rfl
           refine pure_ (i := 14) (N := some 8) (v := ?_) (a' := ?_) (bs 16 32767) rfl rfl (any_of HT_.out (by kernel_rfl)) (fun _ _ _ h => h) (Or.inl ⟨by rfl, ?_⟩) ?_ ?_
           rotate_left
           ·intro w'
            go_simp
            with_reducible rfl
           rotate_left
           ·simp only [Act.put, sA, sB, sC, i64_w, i32_w]
            rfl
           refine pure_ (i := 15) (N := some 9) (v := ?_) (a' := ?_) (bs 16 65535) rfl rfl (any_of HT_.out (by kernel_rfl)) (fun _ _ _ h => h) (Or.inl ⟨by rfl, ?_⟩) ?_ ?_
           rotate_left
           ·intro w'
            go_simp
            with_reducible rfl
           rotate_left
           ·simp only [Act.put, sA, sB, sC, i64_w, i32_w]
            rfl
           refine done_ (done_of HT_.out (by kernel_rfl)) ?_
           try go_wp2
           replace BK144 := zkd BK144
           replace BK145 := zkd BK145
           replace HB := zbd HB
           refine start_ (n := 16) (S := fun w' => w'.cell? ⟨gb144, 0, none⟩ = some (.int .i64 a0_0) ∧ w'.cell? ⟨gb144, 1, none⟩ = some (.int .i64 a0_1) ∧ w'.cell? ⟨gb144, 2, none⟩ = some (.int .i64 a0_2) ∧ w'.cell? ⟨gb144, 3, none⟩ = some (.slice A0_3 l0_3.length c0_3)) (ds := []) (bs 16 0) (by kernel_rfl) rfl rfl ⟨(blk_cell BK144.out 0).trans rfl, (blk_cell BK144.out 1).trans rfl, (blk_cell BK144.out 2).trans rfl, (blk_cell BK144.out 3).trans rfl⟩ (fun hHeld => ?_); refine with_tabW imageeditorref15_At.tab5 imageeditorref15_At.bits5 (fun HT_ HW_ => ?_)
           generalize w33.drew = w34 at BK144 BK145 HB hHeld ⊢
           refine pure_ (i := 0) (N := some 42) (v := ?_) (a' := ?_) (bs 16 1) rfl rfl (any_of HT_.out (by kernel_rfl)) (fun _ _ _ h => h) (Or.inl ⟨by rfl, ?_⟩) ?_ ?_
           rotate_left
           ·intro w'
            go_simp
            with_reducible rfl
           rotate_left
           ·simp only [Act.put, sA, sB, sC, i64_w, i32_w]
            rfl
           refine pure_ (i := 1) (N := some 43) (v := ?_) (a' := ?_) (bs 16 3) rfl rfl (any_of HT_.out (by kernel_rfl)) (fun _ _ _ h => h) (Or.inl ⟨by rfl, ?_⟩) ?_ ?_
           rotate_left
           ·intro w'
            go_simp
            with_reducible rfl
           rotate_left
           ·simp only [Act.put, sA, sB, sC, i64_w, i32_w]
            rfl
           refine pure_ (i := 2) (N := some 44) (v := ?_) (a' := ?_) (bs 16 7) rfl rfl (any_of HT_.out (by kernel_rfl)) (fun _ _ _ h => h) (Or.inl ⟨by rfl, ?_⟩) ?_ ?_
           rotate_left
           ·intro w'
            go_simp
            with_reducible rfl
           rotate_left
           ·simp only [Act.put, sA, sB, sC, i64_w, i32_w]
            rfl
           refine pure_ (i := 3) (N := some 45) (v := ?_) (a' := ?_) (bs 16 15) rfl rfl (any_of HT_.out (by kernel_rfl)) (fun _ _ _ h => h) (Or.inl ⟨by rfl, ?_⟩) ?_ ?_
           rotate_left
           ·intro w'
            go_simp
            with_reducible rfl
           rotate_left
           ·simp only [Act.put, sA, sB, sC, i64_w, i32_w]
            rfl
           refine pure_ (i := 7) (N := some 49) (v := ?_) (a' := ?_) (bs 16 143) rfl rfl (any_of HT_.out (by kernel_rfl)) (fun _ _ _ h => h) (Or.inl ⟨by rfl, ?_⟩) ?_ ?_
           rotate_left
           ·intro w'
            go_simp
            with_reducible rfl
           rotate_left
           ·simp only [Act.put, sA, sB, sC, i64_w, i32_w]
            rfl
           refine pure_ (i := 8) (N := some 50) (v := ?_) (a' := ?_) (bs 16 399) rfl rfl (any_of HT_.out (by kernel_rfl)) (fun _ _ _ h => h) (Or.inl ⟨by rfl, ?_⟩) ?_ ?_
           rotate_left
           ·intro w'
            go_simp
            with_reducible rfl
           rotate_left
           ·simp only [Act.put, sA, sB, sC, i64_w, i32_w]
            rfl
           refine pure_ (i := 9) (N := some 51) (v := ?_) (a' := ?_) (bs 16 911) rfl rfl (any_of HT_.out (by kernel_rfl)) (fun _ _ _ h => h) (Or.inl ⟨by rfl, ?_⟩) ?_ ?_
           rotate_left
           ·intro w'
            go_simp
            with_reducible rfl
           rotate_left
           ·simp only [Act.put, sA, sB, sC, i64_w, i32_w]
            rfl
           refine pure_ (i := 10) (N := some 52) (v := ?_) (a' := ?_) (bs 16 1935) rfl rfl (any_of HT_.out (by kernel_rfl)) (fun _ _ _ h => h) (Or.inl ⟨by rfl, ?_⟩) ?_ ?_
           rotate_left
           ·intro w'
            go_simp
            with_reducible rfl
           rotate_left
           ·simp only [Act.put, sA, sB, sC, i64_w, i32_w]
            rfl
           refine take_ (i := 4) (N := some 46) (v := ?_) (a' := ?_) (bs 16 1951) rfl rfl (take_ofW HT_.out HW_.out (by kernel_rfl)) (fun _ _ _ h => h) (Or.inl ⟨by rfl, ?_⟩) hHeld ?_ ?_
           rotate_left
           ·rintro w' ⟨s0, s1, s2, s3⟩
            go_simp
            with_reducible rfl
           rotate_left
           ·simp only [Act.put, sA, sB, sC, i64_w, i32_w]
            rfl
           refine pure_ (i := 5) (N := some 47) (v := ?_) (a' := ?_) (bs 16 1983) rfl rfl (any_of HT_.out (by kernel_rfl)) (fun _ _ _ h => h) (Or.inl ⟨by rfl, ?_⟩) ?_ ?_
           rotate_left
           ·intro w'
            go_simp
            with_reducible rfl
           rotate_left
           ·simp only [Act.put, sA, sB, sC, i64_w, i32_w]
            rfl
           refine take_ (i := 11) (N := some 53) (v := ?_) (a' := ?_) (bs 16 4031) rfl rfl (take_ofW HT_.out HW_.out (by kernel_rfl)) (fun _ _ _ h => h) (Or.inl ⟨by rfl, ?_⟩) hHeld ?_ ?_
           rotate_left
           ·rintro w' ⟨s0, s1, s2, s3⟩
            go_simp
            with_reducible rfl
           rotate_left
           ·simp only [Act.put, sA, sB, sC, i64_w, i32_w]
            rfl
           refine pure_ (i := 12) (N := some 54) (v := ?_) (a' := ?_) (bs 16 8127) rfl rfl (any_of HT_.out (by kernel_rfl)) (fun _ _ _ h => h) (Or.inl ⟨by rfl, ?_⟩) ?_ ?_
           rotate_left
           ·intro w'
            go_simp
            with_reducible rfl
           rotate_left
           ·simp only [Act.put, sA, sB, sC, i64_w, i32_w]
            rfl
           refine one_ (i := 6) (N := some 48) (bs 16 8191) rfl rfl (one_of HT_.out (by kernel_rfl)) (by decide) (fun K hK => ?_)
           refine goes_ Try.func30 (by kernel_rfl) rfl #[.int .i64 (wrap64 (Int.tdiv t147 a0_2)), .int .i64 0, .int .i64 (wrap64 (a0_0 - 2))] (by rfl) rfl rfl (by (try simp only [List.map_toArray, List.map_cons, List.map_nil]); first | done | rfl | (simp only [List.length_drop, List.length_take]; rfl)) ?_
           with_reducible refine (imageeditorref01_Clamp.calls (wrap64 (Int.tdiv t147 a0_2)) 0 (wrap64 (a0_0 - 2)) t149 _ A9.out).mono ?_
           rintro e w35 ⟨rfl, hb⟩
           refine ⟨_, rfl, ?_⟩
           replace BK144 := zk BK144 hb
           replace BK145 := zk BK145 hb
           replace HB := zb HB hb
           (try clear hb)
           (try clear hb2)
           (try clear hk)
           (try clear hi)
           refine hK.out _ _ ⟨(blk_cell BK144.out 0).trans rfl, (blk_cell BK144.out 1).trans rfl, (blk_cell BK144.out 2).trans rfl, (blk_cell BK144.out 3).trans rfl⟩ (fun hHeld => ?_)
           clear hK K
           refine norm_ (a' := ?_) ?_ ?_
           rotate_left
           ·show Act.put _ (some 48) _ = _
            simp only [Act.put, sA, sB, sC, i64_w, i32_w]
            rfl
           refine one_ (i := 13) (N := some 55) (bs 16 16383) rfl rfl (one_of HT_.out (by kernel_rfl)) (by decide) (fun K hK => ?_)
           refine goes_ Try.func30 (by kernel_rfl) rfl #[.int .i64 (wrap64 (Int.tdiv t148 a0_2)), .int .i64 0, .int .i64 (wrap64 (a0_1 - 2))] (by rfl) rfl rfl (by (try simp only [List.map_toArray, List.map_cons, List.map_nil]); first | done | rfl | (simp only [List.length_drop, List.length_take]; rfl)) ?_
           with_reducible refine (imageeditorref01_Clamp.calls (wrap64 (Int.tdiv t148 a0_2)) 0 (wrap64 (a0_1 - 2)) t150 _ A10.out).mono ?_
           rintro e w36 ⟨rfl, hb⟩
           refine ⟨_, rfl, ?_⟩
           replace BK144 := zk BK144 hb
           replace BK145 := zk BK145 hb
           replace HB := zb HB hb
           (try clear hb)
           (try clear hb2)
           (try clear hk)
           (try clear hi)
           refine hK.out _ _ ⟨(blk_cell BK144.out 0).trans rfl, (blk_cell BK144.out 1).trans rfl, (blk_cell BK144.out 2).trans rfl, (blk_cell BK144.out 3).trans rfl⟩ (fun hHeld => ?_)
           clear hK K
           refine norm_ (a' := ?_) ?_ ?_
           rotate_left
           ·show Act.put _ (some 55) _ = _
            simp only [Act.put, sA, sB, sC, i64_w, i32_w]
            rfl
           refine pure_ (i := 14) (N := some 10) (v := ?_) (a' := ?_) (bs 16 32767) rfl rfl (any_of HT_.out (by kernel_rfl)) (fun _ _ _ h => h) (Or.inl ⟨by rfl, ?_⟩) ?_ ?_
           rotate_left
           ·intro w'
            go_simp
            with_reducible rfl
           rotate_left
           ·simp only [Act.put, sA, sB, sC, i64_w, i32_w]
            rfl
           refine pure_ (i := 15) (N := some 11) (v := ?_) (a' := ?_) (bs 16 65535) rfl rfl (any_of HT_.out (by kernel_rfl)) (fun _ _ _ h => h) (Or.inl ⟨by rfl, ?_⟩) ?_ ?_
           rotate_left
           ·intro w'
            go_simp
            with_reducible rfl
           rotate_left
           ·simp only [Act.put, sA, sB, sC, i64_w, i32_w]
            rfl
           refine done_ (done_of HT_.out (by kernel_rfl)) ?_
           try go_wp2
           replace BK144 := zkd BK144
           replace BK145 := zkd BK145
           replace HB := zbd HB
           have p151 : 0 ≤ ((ji11) : Int) := of_decide_eq_true (by first | (with_reducible assumption) | assumption)
           have q151 : (ji11) < (l0_3.length : Int) := of_decide_eq_true (by first | (with_reducible assumption) | assumption)
           obtain ⟨ad151, e151, hx151_0, hx151_1⟩ := at_T28 HR0_3.out (ji11) p151 q151
           have hw151_1 := hx151_1
           have hw151_0 := hx151_0
           cases e151
           replace hx151_0 := (HB.out.cell (World.block_lt_of_cell? w _ hx151_0)).trans hx151_0
           replace hx151_1 := (HB.out.cell (World.block_lt_of_cell? w _ hx151_1)).trans hx151_1
           replace p151 := eq_true p151
           replace q151 := eq_true q151
           have p152 : 0 ≤ ((ji14) : Int) := of_decide_eq_true (by first | (with_reducible assumption) | assumption)
           have q152 : (ji14) < (l0_3.length : Int) := of_decide_eq_true (by first | (with_reducible assumption) | assumption)
           obtain ⟨ad152, e152, hx152_0, hx152_1⟩ := at_T28 HR0_3.out (ji14) p152 q152
           have hw152_1 := hx152_1
           have hw152_0 := hx152_0
           obtain rfl : ad151 = ad152 := (by injection e152)
           replace hx152_0 := (HB.out.cell (World.block_lt_of_cell? w _ hx152_0)).trans hx152_0
           replace hx152_1 := (HB.out.cell (World.block_lt_of_cell? w _ hx152_1)).trans hx152_1
           replace p152 := eq_true p152
           replace q152 := eq_true q152
           refine start_ (n := 25) (S := fun w' => w'.cell? ⟨gb144, 0, none⟩ = some (.int .i64 a0_0) ∧ w'.cell? ⟨gb144, 1, none⟩ = some (.int .i64 a0_1) ∧ w'.cell? ⟨gb144, 2, none⟩ = some (.int .i64 a0_2) ∧ w'.cell? ⟨gb144, 3, none⟩ = some (.slice (some ad151) l0_3.length c0_3) ∧ w'.cell? (ad151.add (((ji11)).toNat * 2)) = some (.int .i64 ((rd_T28 l0_3 (ji11)).f0)) ∧ w'.cell? ⟨(ad151.add (((ji11)).toNat * 2)).block, (ad151.add (((ji11)).toNat * 2)).off + 1, none⟩ = some (.int .i64 ((rd_T28 l0_3 (ji11)).f1)) ∧ w'.cell? (ad151.add (((ji14)).toNat * 2)) = some (.int .i64 ((rd_T28 l0_3 (ji14)).f0)) ∧ w'.cell? ⟨(ad151.add (((ji14)).toNat * 2)).block, (ad151.add (((ji14)).toNat * 2)).off + 1, none⟩ = some (.int .i64 ((rd_T28 l0_3 (ji14)).f1))) (ds := []) (bs 25 0) (by kernel_rfl) rfl rfl ⟨(blk_cell BK144.out 0).trans rfl, (blk_cell BK144.out 1).trans rfl, (blk_cell BK144.out 2).trans rfl, (blk_cell BK144.out 3).trans rfl, ((HB.out.cell (World.block_lt_of_cell? w _ hw151_0)).trans hw151_0), ((HB.out.cell (World.block_lt_of_cell? w _ hw151_1)).trans hw151_1), ((HB.out.cell (World.block_lt_of_cell? w _ hw152_0)).trans hw152_0), ((HB.out.cell (World.block_lt_of_cell? w _ hw152_1)).trans hw152_1)⟩ (fun hHeld => ?_); refine with_tabW imageeditorref15_At.tab7 imageeditorref15_At.bits7 (fun HT_ HW_ => ?_)
           generalize w36.drew = w37 at BK144 BK145 HB hx151_0 hx151_1 hx152_0 hx152_1 hHeld ⊢
           refine pure_ (i := 0) (N := some 66) (v := ?_) (a' := ?_) (bs 25 1) rfl rfl (any_of HT_.out (by kernel_rfl)) (fun _ _ _ h => h) (Or.inl ⟨by rfl, ?_⟩) ?_ ?_
           rotate_left
           ·intro w'
            go_simp
            with_reducible rfl
           rotate_left
           ·simp only [Act.put, sA, sB, sC, i64_w, i32_w]
            rfl
           refine pure_ (i := 2) (N := some 68) (v := ?_) (a' := ?_) (bs 25 5) rfl rfl (any_of HT_.out (by kernel_rfl)) (fun _ _ _ h => h) (Or.inl ⟨by rfl, ?_⟩) ?_ ?_
           rotate_left
           ·intro w'
            go_simp
            with_reducible rfl
           rotate_left
           ·simp only [Act.put, sA, sB, sC, i64_w, i32_w]
            rfl
           refine pure_ (i := 3) (N := some 69) (v := ?_) (a' := ?_) (bs 25 13) rfl rfl (any_of HT_.out (by kernel_rfl)) (fun _ _ _ h => h) (Or.inl ⟨by rfl, ?_⟩) ?_ ?_
           rotate_left
           ·intro w'
            go_simp
            with_reducible rfl
           rotate_left
           ·simp only [Act.put, sA, sB, sC, i64_w, i32_w]
            rfl
           refine pure_ (i := 6) (N := some 72) (v := ?_) (a' := ?_) (bs 25 77) rfl rfl (any_of HT_.out (by kernel_rfl)) (fun _ _ _ h => h) (Or.inl ⟨by rfl, ?_⟩) ?_ ?_
           rotate_left
           ·intro w'
            go_simp
            with_reducible rfl
           rotate_left
           ·simp only [Act.put, sA, sB, sC, i64_w, i32_w]
            rfl
           refine pure_ (i := 10) (N := some 76) (v := ?_) (a' := ?_) (bs 25 1101) rfl rfl (any_of HT_.out (by kernel_rfl)) (fun _ _ _ h => h) (Or.inl ⟨by rfl, ?_⟩) ?_ ?_
           rotate_left
           ·intro w'
            go_simp
            with_reducible rfl
           rotate_left
           ·simp only [Act.put, sA, sB, sC, i64_w, i32_w]
            rfl
           refine pure_ (i := 12) (N := some 78) (v := ?_) (a' := ?_) (bs 25 5197) rfl rfl (any_of HT_.out (by kernel_rfl)) (fun _ _ _ h => h) (Or.inl ⟨by rfl, ?_⟩) ?_ ?_
           rotate_left
           ·intro w'
            go_simp
            with_reducible rfl
           rotate_left
           ·simp only [Act.put, sA, sB, sC, i64_w, i32_w]
            rfl
           refine pure_ (i := 13) (N := some 79) (v := ?_) (a' := ?_) (bs 25 13389) rfl rfl (any_of HT_.out (by kernel_rfl)) (fun _ _ _ h => h) (Or.inl ⟨by rfl, ?_⟩) ?_ ?_
           rotate_left
           ·intro w'
            go_simp
            with_reducible rfl
           rotate_left
           ·simp only [Act.put, sA, sB, sC, i64_w, i32_w]
            rfl
           refine pure_ (i := 16) (N := some 82) (v := ?_) (a' := ?_) (bs 25 78925) rfl rfl (any_of HT_.out (by kernel_rfl)) (fun _ _ _ h => h) (Or.inl ⟨by rfl, ?_⟩) ?_ ?_
           rotate_left
           ·intro w'
            go_simp
            with_reducible rfl
           rotate_left
           ·simp only [Act.put, sA, sB, sC, i64_w, i32_w]
            rfl
           refine take_ (i := 1) (N := some 67) (v := ?_) (a' := ?_) (bs 25 78927) rfl rfl (take_ofW HT_.out HW_.out (by kernel_rfl)) (fun _ _ _ h => h) (Or.inl ⟨by rfl, ?_⟩) hHeld ?_ ?_
           rotate_left
           ·rintro w' ⟨s0, s1, s2, s3, s4, s5, s6, s7⟩
            go_simp
            with_reducible rfl
           rotate_left
           ·simp only [Act.put, sA, sB, sC, i64_w, i32_w]
            rfl
           refine take_ (i := 4) (N := some 70) (v := ?_) (a' := ?_) (bs 25 78943) rfl rfl (take_ofW HT_.out HW_.out (by kernel_rfl)) (fun _ _ _ h => h) (Or.inl ⟨by rfl, ?_⟩) hHeld ?_ ?_
           rotate_left
           ·rintro w' ⟨s0, s1, s2, s3, s4, s5, s6, s7⟩
            go_simp
            with_reducible rfl
           rotate_left
           ·simp only [Act.put, sA, sB, sC, i64_w, i32_w]
            rfl
           refine pure_ (i := 5) (N := some 71) (v := ?_) (a' := ?_) (bs 25 78975) rfl rfl (any_of HT_.out (by kernel_rfl)) (fun _ _ _ h => h) (Or.inl ⟨by rfl, ?_⟩) ?_ ?_
           rotate_left
           ·intro w'
            go_simp
            with_reducible rfl
           rotate_left
           ·simp only [Act.put, sA, sB, sC, i64_w, i32_w]
            rfl
           refine pure_ (i := 7) (N := some 73) (v := ?_) (a' := ?_) (bs 25 79103) rfl rfl (any_of HT_.out (by kernel_rfl)) (fun _ _ _ h => h) (Or.inl ⟨by rfl, ?_⟩) ?_ ?_
           rotate_left
           ·intro w'
            go_simp
            with_reducible rfl
           rotate_left
           ·simp only [Act.put, sA, sB, sC, i64_w, i32_w]
            rfl
           refine pure_ (i := 8) (N := some 74) (v := ?_) (a' := ?_) (bs 25 79359) rfl rfl (any_of HT_.out (by kernel_rfl)) (fun _ _ _ h => h) (Or.inl ⟨by rfl, ?_⟩) ?_ ?_
           rotate_left
           ·intro w'
            go_simp
            with_reducible rfl
           rotate_left
           ·simp only [Act.put, sA, sB, sC, i64_w, i32_w]
            rfl
           refine take_ (i := 9) (N := some 75) (v := ?_) (a' := ?_) (bs 25 79871) rfl rfl (take_ofW HT_.out HW_.out (by kernel_rfl)) (fun _ _ _ h => h) (Or.inl ⟨by rfl, ?_⟩) hHeld ?_ ?_
           rotate_left
           ·rintro w' ⟨s0, s1, s2, s3, s4, s5, s6, s7⟩
            go_simp
            with_reducible rfl
           rotate_left
           ·simp only [Act.put, sA, sB, sC, i64_w, i32_w]
            rfl
           refine take_ (i := 11) (N := some 77) (v := ?_) (a' := ?_) (bs 25 81919) rfl rfl (take_ofW HT_.out HW_.out (by kernel_rfl)) (fun _ _ _ h => h) (Or.inl ⟨by rfl, ?_⟩) hHeld ?_ ?_
           rotate_left
           ·rintro w' ⟨s0, s1, s2, s3, s4, s5, s6, s7⟩
            go_simp
            with_reducible rfl
           rotate_left
           ·simp only [Act.put, sA, sB, sC, i64_w, i32_w]
            rfl
           refine take_ (i := 14) (N := some 80) (v := ?_) (a' := ?_) (bs 25 98303) rfl rfl (take_ofW HT_.out HW_.out (by kernel_rfl)) (fun _ _ _ h => h) (Or.inl ⟨by rfl, ?_⟩) hHeld ?_ ?_
           rotate_left
           ·rintro w' ⟨s0, s1, s2, s3, s4, s5, s6, s7⟩
            go_simp
            with_reducible rfl
           rotate_left
           ·simp only [Act.put, sA, sB, sC, i64_w, i32_w]
            rfl
           refine pure_ (i := 15) (N := some 81) (v := ?_) (a' := ?_) (bs 25 131071) rfl rfl (any_of HT_.out (by kernel_rfl)) (fun _ _ _ h => h) (Or.inl ⟨by rfl, ?_⟩) ?_ ?_
           rotate_left
           ·intro w'
            go_simp
            with_reducible rfl
           rotate_left
           ·simp only [Act.put, sA, sB, sC, i64_w, i32_w]
            rfl
           refine pure_ (i := 17) (N := some 83) (v := ?_) (a' := ?_) (bs 25 262143) rfl rfl (any_of HT_.out (by kernel_rfl)) (fun _ _ _ h => h) (Or.inl ⟨by rfl, ?_⟩) ?_ ?_
           rotate_left
           ·intro w'
            go_simp
            with_reducible rfl
           rotate_left
           ·simp only [Act.put, sA, sB, sC, i64_w, i32_w]
            rfl
           refine pure_ (i := 18) (N := some 84) (v := ?_) (a' := ?_) (bs 25 524287) rfl rfl (any_of HT_.out (by kernel_rfl)) (fun _ _ _ h => h) (Or.inl ⟨by rfl, ?_⟩) ?_ ?_
           rotate_left
           ·intro w'
            go_simp
            with_reducible rfl
           rotate_left
           ·simp only [Act.put, sA, sB, sC, i64_w, i32_w]
            rfl
           refine pure_ (i := 19) (N := some 85) (v := ?_) (a' := ?_) (bs 25 1048575) rfl rfl (any_of HT_.out (by kernel_rfl)) (fun _ _ _ h => h) (Or.inl ⟨by rfl, ?_⟩) ?_ ?_
           rotate_left
           ·intro w'
            go_simp
            with_reducible rfl
           rotate_left
           ·simp only [Act.put, sA, sB, sC, i64_w, i32_w]
            rfl
           refine take_ (i := 20) (N := some 86) (v := ?_) (a' := ?_) (bs 25 2097151) rfl rfl (take_ofW HT_.out HW_.out (by kernel_rfl)) (fun _ _ _ h => h) (Or.inl ⟨by rfl, ?_⟩) hHeld ?_ ?_
           rotate_left
           ·rintro w' ⟨s0, s1, s2, s3, s4, s5, s6, s7⟩
            go_simp
            with_reducible rfl
           rotate_left
           ·simp only [Act.put, sA, sB, sC, i64_w, i32_w]
            rfl
           refine join_ (σ := Nat × Nat) 2 (bs 25 8388607) (fun s_ => [(14, .pointer (some ⟨s_.1, 0, none⟩)), (15, .pointer (some ⟨s_.2, 0, none⟩))]) (fun s_ w' => (w'.cell? ⟨gb144, 0, none⟩ = some (.int .i64 a0_0) ∧ w'.cell? ⟨gb144, 1, none⟩ = some (.int .i64 a0_1) ∧ w'.cell? ⟨gb144, 2, none⟩ = some (.int .i64 a0_2) ∧ w'.cell? ⟨gb144, 3, none⟩ = some (.slice (some ad151) l0_3.length c0_3) ∧ w'.cell? (ad151.add (((ji11)).toNat * 2)) = some (.int .i64 ((rd_T28 l0_3 (ji11)).f0)) ∧ w'.cell? ⟨(ad151.add (((ji11)).toNat * 2)).block, (ad151.add (((ji11)).toNat * 2)).off + 1, none⟩ = some (.int .i64 ((rd_T28 l0_3 (ji11)).f1)) ∧ w'.cell? (ad151.add (((ji14)).toNat * 2)) = some (.int .i64 ((rd_T28 l0_3 (ji14)).f0)) ∧ w'.cell? ⟨(ad151.add (((ji14)).toNat * 2)).block, (ad151.add (((ji14)).toNat * 2)).off + 1, none⟩ = some (.int .i64 ((rd_T28 l0_3 (ji14)).f1))) ∧ (w'.heap[gb144]? = some (.cells #[.int .i64 a0_0, .int .i64 a0_1, .int .i64 a0_2, .slice (some ad151) l0_3.length c0_3] 24 (0, 0))) ∧ (w'.heap[gb145]? = some (.cells #[.int .i64 0, .int .i64 0] 28 (0, 0))) ∧ (w'.heap[s_.1]? = some (.cells #[.int .i64 0, .int .i64 0] 28 (0, 0))) ∧ (w'.heap[s_.2]? = some (.cells #[.int .i64 0, .int .i64 0] 28 (0, 0))) ∧ (w.heap.size ≤ s_.1) ∧ (w.heap.size ≤ s_.1) ∧ (gb144 ≠ s_.1) ∧ (s_.1 ≠ gb144) ∧ (gb145 ≠ s_.1) ∧ (s_.1 ≠ gb145) ∧ (s_.2 ≠ s_.1) ∧ (s_.1 ≠ s_.2) ∧ (w.heap.size ≤ s_.2) ∧ (w.heap.size ≤ s_.2) ∧ (gb144 ≠ s_.2) ∧ (s_.2 ≠ gb144) ∧ (gb145 ≠ s_.2) ∧ (s_.2 ≠ gb145) ∧ (Below w.heap.size w w')) ?_ ?_
           rotate_left
           ·intro hCont
            refine two_ (i := 21) (j := 22) (Ni := some 14) (Nj := some 15) (bs 25 4194303) (bs 25 6291455) rfl rfl rfl rfl (two_of HT_.out (by kernel_rfl)) (by decide) (by decide) (fun K hK => ?_) (fun K hK => ?_)
            ·skip
             refine box_step ?hg (N := 14) ?hd (cs := #[.int .i64 0, .int .i64 0]) (t := 28) ?hr ?_; (case hd => rfl); (case hg => rfl); (case hr => first | (go_simp; done) | (go_simp; rfl))
             intro gb153 hg w38 hbox hb
             have GW153 := zg HB hg
             have GE153 := zg HB hg
             have NB144_153 := zn BK144 hg
             have NB153_144 := zn' BK144 hg
             have NB145_153 := zn BK145 hg
             have NB153_145 := zn' BK145 hg
             have n0_ := Aside0.mk (hbox)
             replace BK144 := zk BK144 hb
             replace BK145 := zk BK145 hb
             replace HB := zb HB hb
             have BK153 := n0_
             clear n0_
             clear hb hbox hg
             refine hK.out _ _ ⟨(blk_cell BK144.out 0).trans rfl, (blk_cell BK144.out 1).trans rfl, (blk_cell BK144.out 2).trans rfl, (blk_cell BK144.out 3).trans rfl, ((HB.out.cell (World.block_lt_of_cell? w _ hw151_0)).trans hw151_0), ((HB.out.cell (World.block_lt_of_cell? w _ hw151_1)).trans hw151_1), ((HB.out.cell (World.block_lt_of_cell? w _ hw152_0)).trans hw152_0), ((HB.out.cell (World.block_lt_of_cell? w _ hw152_1)).trans hw152_1)⟩ (fun hHeld => ?_)
             clear hK K
             refine norm_ (a' := ?_) ?_ ?_
             rotate_left
             ·show Act.put _ (some 14) _ = _
              simp only [Act.put, sA, sB, sC, i64_w, i32_w]
              rfl
             refine one_ (i := 22) (N := some 15) (bs 25 8388607) rfl rfl (one_of HT_.out (by kernel_rfl)) (by decide) (fun K hK => ?_)
             refine box_step ?hg (N := 15) ?hd (cs := #[.int .i64 0, .int .i64 0]) (t := 28) ?hr ?_; (case hd => rfl); (case hg => rfl); (case hr => first | (go_simp; done) | (go_simp; rfl))
             intro gb154 hg w39 hbox hb
             have GW154 := zg HB hg
             have GE154 := zg HB hg
             have NB144_154 := zn BK144 hg
             have NB154_144 := zn' BK144 hg
             have NB145_154 := zn BK145 hg
             have NB154_145 := zn' BK145 hg
             have NB153_154 := zn BK153 hg
             have NB154_153 := zn' BK153 hg
             have n0_ := Aside0.mk (hbox)
             replace BK144 := zk BK144 hb
             replace BK145 := zk BK145 hb
             replace BK153 := zk BK153 hb
             replace HB := zb HB hb
             have BK154 := n0_
             clear n0_
             clear hb hbox hg
             refine hK.out _ _ ⟨(blk_cell BK144.out 0).trans rfl, (blk_cell BK144.out 1).trans rfl, (blk_cell BK144.out 2).trans rfl, (blk_cell BK144.out 3).trans rfl, ((HB.out.cell (World.block_lt_of_cell? w _ hw151_0)).trans hw151_0), ((HB.out.cell (World.block_lt_of_cell? w _ hw151_1)).trans hw151_1), ((HB.out.cell (World.block_lt_of_cell? w _ hw152_0)).trans hw152_0), ((HB.out.cell (World.block_lt_of_cell? w _ hw152_1)).trans hw152_1)⟩ (fun hHeld => ?_)
             clear hK K
             refine norm_ (a' := ?_) ?_ ?_
             rotate_left
             ·show Act.put _ (some 15) _ = _
              simp only [Act.put, sA, sB, sC, i64_w, i32_w]
              rfl
             exact norm_ (by simp only [putAll, Act.put, sA, sB, sC]) (hCont (gb153, gb154) _ ⟨hHeld, (by exact zk0 BK144), (by exact zk0 BK145), (by exact zk0 BK153), (by exact zk0 BK154), GW153.out, GE153.out, NB144_153.out, NB153_144.out, NB145_153.out, NB153_145.out, NB154_153.out, NB153_154.out, GW154.out, GE154.out, NB144_154.out, NB154_144.out, NB145_154.out, NB154_145.out, (by exact zb0 HB)⟩)
            ·skip
             refine box_step ?hg (N := 15) ?hd (cs := #[.int .i64 0, .int .i64 0]) (t := 28) ?hr ?_; (case hd => rfl); (case hg => rfl); (case hr => first | (go_simp; done) | (go_simp; rfl))
             intro gb154 hg w38 hbox hb
             have GW154 := zg HB hg
             have GE154 := zg HB hg
             have NB144_154 := zn BK144 hg
             have NB154_144 := zn' BK144 hg
             have NB145_154 := zn BK145 hg
             have NB154_145 := zn' BK145 hg
             have n0_ := Aside0.mk (hbox)
             replace BK144 := zk BK144 hb
             replace BK145 := zk BK145 hb
             replace HB := zb HB hb
             have BK154 := n0_
             clear n0_
             clear hb hbox hg
             refine hK.out _ _ ⟨(blk_cell BK144.out 0).trans rfl, (blk_cell BK144.out 1).trans rfl, (blk_cell BK144.out 2).trans rfl, (blk_cell BK144.out 3).trans rfl, ((HB.out.cell (World.block_lt_of_cell? w _ hw151_0)).trans hw151_0), ((HB.out.cell (World.block_lt_of_cell? w _ hw151_1)).trans hw151_1), ((HB.out.cell (World.block_lt_of_cell? w _ hw152_0)).trans hw152_0), ((HB.out.cell (World.block_lt_of_cell? w _ hw152_1)).trans hw152_1)⟩ (fun hHeld => ?_)
             clear hK K
             refine norm_ (a' := ?_) ?_ ?_
             rotate_left
             ·show Act.put _ (some 15) _ = _
              simp only [Act.put, sA, sB, sC, i64_w, i32_w]
              rfl
             refine one_ (i := 21) (N := some 14) (bs 25 8388607) rfl rfl (one_of HT_.out (by kernel_rfl)) (by decide) (fun K hK => ?_)
             refine box_step ?hg (N := 14) ?hd (cs := #[.int .i64 0, .int .i64 0]) (t := 28) ?hr ?_; (case hd => rfl); (case hg => rfl); (case hr => first | (go_simp; done) | (go_simp; rfl))
             intro gb153 hg w39 hbox hb
             have GW153 := zg HB hg
             have GE153 := zg HB hg
             have NB144_153 := zn BK144 hg
             have NB153_144 := zn' BK144 hg
             have NB145_153 := zn BK145 hg
             have NB153_145 := zn' BK145 hg
             have NB154_153 := zn BK154 hg
             have NB153_154 := zn' BK154 hg
             have n0_ := Aside0.mk (hbox)
             replace BK144 := zk BK144 hb
             replace BK145 := zk BK145 hb
             replace BK154 := zk BK154 hb
             replace HB := zb HB hb
             have BK153 := n0_
             clear n0_
             clear hb hbox hg
             refine hK.out _ _ ⟨(blk_cell BK144.out 0).trans rfl, (blk_cell BK144.out 1).trans rfl, (blk_cell BK144.out 2).trans rfl, (blk_cell BK144.out 3).trans rfl, ((HB.out.cell (World.block_lt_of_cell? w _ hw151_0)).trans hw151_0), ((HB.out.cell (World.block_lt_of_cell? w _ hw151_1)).trans hw151_1), ((HB.out.cell (World.block_lt_of_cell? w _ hw152_0)).trans hw152_0), ((HB.out.cell (World.block_lt_of_cell? w _ hw152_1)).trans hw152_1)⟩ (fun hHeld => ?_)
             clear hK K
             refine norm_ (a' := ?_) ?_ ?_
             rotate_left
             ·show Act.put _ (some 14) _ = _
              simp only [Act.put, sA, sB, sC, i64_w, i32_w]
              rfl
             exact norm_ (by simp only [putAll, Act.put, sA, sB, sC]) (hCont (gb153, gb154) _ ⟨hHeld, (by exact zk0 BK144), (by exact zk0 BK145), (by exact zk0 BK153), (by exact zk0 BK154), GW153.out, GE153.out, NB144_153.out, NB153_144.out, NB145_153.out, NB153_145.out, NB154_153.out, NB153_154.out, GW154.out, GE154.out, NB144_154.out, NB154_144.out, NB145_154.out, NB154_145.out, (by exact zb0 HB)⟩)
           rintro ⟨gb153, gb154⟩ w40 ⟨hS_, h0_, h1_, h2_, h3_, h4_, h5_, h6_, h7_, h8_, h9_, h10_, h11_, h12_, h13_, h14_, h15_, h16_, h17_, h18_⟩
           have n0_ : Aside0 (w40.heap[gb144]? = some (.cells #[.int .i64 a0_0, .int .i64 a0_1, .int .i64 a0_2, .slice (some ad151) l0_3.length c0_3] 24 (0, 0))) := ⟨h0_⟩
           have n1_ : Aside0 (w40.heap[gb145]? = some (.cells #[.int .i64 0, .int .i64 0] 28 (0, 0))) := ⟨h1_⟩
           have n2_ : Aside0 (w40.heap[gb153]? = some (.cells #[.int .i64 0, .int .i64 0] 28 (0, 0))) := ⟨h2_⟩
           have n3_ : Aside0 (w40.heap[gb154]? = some (.cells #[.int .i64 0, .int .i64 0] 28 (0, 0))) := ⟨h3_⟩
           have n4_ : Aside0 (w.heap.size ≤ gb153) := ⟨h4_⟩
           have n5_ : Aside0 (w.heap.size ≤ gb153) := ⟨h5_⟩
           have n6_ : Aside0 (gb144 ≠ gb153) := ⟨h6_⟩
           have n7_ : Aside0 (gb153 ≠ gb144) := ⟨h7_⟩
           have n8_ : Aside0 (gb145 ≠ gb153) := ⟨h8_⟩
           have n9_ : Aside0 (gb153 ≠ gb145) := ⟨h9_⟩
           have n10_ : Aside0 (gb154 ≠ gb153) := ⟨h10_⟩
           have n11_ : Aside0 (gb153 ≠ gb154) := ⟨h11_⟩
           have n12_ : Aside0 (w.heap.size ≤ gb154) := ⟨h12_⟩
           have n13_ : Aside0 (w.heap.size ≤ gb154) := ⟨h13_⟩
           have n14_ : Aside0 (gb144 ≠ gb154) := ⟨h14_⟩
           have n15_ : Aside0 (gb154 ≠ gb144) := ⟨h15_⟩
           have n16_ : Aside0 (gb145 ≠ gb154) := ⟨h16_⟩
           have n17_ : Aside0 (gb154 ≠ gb145) := ⟨h17_⟩
           have n18_ : Aside0 (Below w.heap.size w w40) := ⟨h18_⟩
           clear BK144
           clear BK145
           clear HB
           clear h0_ h1_ h2_ h3_ h4_ h5_ h6_ h7_ h8_ h9_ h10_ h11_ h12_ h13_ h14_ h15_ h16_ h17_ h18_
           have BK144 := n0_
           have BK145 := n1_
           have BK153 := n2_
           have BK154 := n3_
           have GW153 := n4_
           have GE153 := n5_
           have NB144_153 := n6_
           have NB153_144 := n7_
           have NB145_153 := n8_
           have NB153_145 := n9_
           have NB154_153 := n10_
           have NB153_154 := n11_
           have GW154 := n12_
           have GE154 := n13_
           have NB144_154 := n14_
           have NB154_144 := n15_
           have NB145_154 := n16_
           have NB154_145 := n17_
           have HB := n18_
           clear n0_ n1_ n2_ n3_ n4_ n5_ n6_ n7_ n8_ n9_ n10_ n11_ n12_ n13_ n14_ n15_ n16_ n17_ n18_
           have hHeld : w40.cell? ⟨gb144, 0, none⟩ = some (.int .i64 a0_0) ∧ w40.cell? ⟨gb144, 1, none⟩ = some (.int .i64 a0_1) ∧ w40.cell? ⟨gb144, 2, none⟩ = some (.int .i64 a0_2) ∧ w40.cell? ⟨gb144, 3, none⟩ = some (.slice (some ad151) l0_3.length c0_3) ∧ w40.cell? (ad151.add (((ji11)).toNat * 2)) = some (.int .i64 ((rd_T28 l0_3 (ji11)).f0)) ∧ w40.cell? ⟨(ad151.add (((ji11)).toNat * 2)).block, (ad151.add (((ji11)).toNat * 2)).off + 1, none⟩ = some (.int .i64 ((rd_T28 l0_3 (ji11)).f1)) ∧ w40.cell? (ad151.add (((ji14)).toNat * 2)) = some (.int .i64 ((rd_T28 l0_3 (ji14)).f0)) ∧ w40.cell? ⟨(ad151.add (((ji14)).toNat * 2)).block, (ad151.add (((ji14)).toNat * 2)).off + 1, none⟩ = some (.int .i64 ((rd_T28 l0_3 (ji14)).f1)) := hS_
           refine norm_ (a' := ?_) ?_ ?_
           rotate_left
           ·simp only [putAll, Act.put, sA, sB, sC]
            rfl
           refine one_ (i := 23) (N := none) (bs 25 16777215) rfl rfl (one_of HT_.out (by kernel_rfl)) (by decide) (fun K hK => ?_)
           have hs41 : w40.cell? ⟨gb153, 0, none⟩ = some (.int .i64 0) := (blk_cell BK153.out 0).trans rfl
           have hfs41 := blk_frozen BK153.out 0
           have hns41_0 := NB144_153.out
           have hns41_1 := NB145_153.out
           have hns41_3 := NB154_153.out
           have hms41_0 := NB153_144.out
           have hms41_1 := NB153_145.out
           have hms41_3 := NB153_154.out
           have hs42 : w40.cell? ⟨gb153, 1, none⟩ = some (.int .i64 0) := (blk_cell BK153.out 1).trans rfl
           have hfs42 := blk_frozen BK153.out 1
           have hns42_0 := NB144_153.out
           have hns42_1 := NB145_153.out
           have hns42_3 := NB154_153.out
           have hms42_0 := NB153_144.out
           have hms42_1 := NB153_145.out
           have hms42_3 := NB153_154.out
           refine skip_ (w1 := ?_) (by rfl) rfl ?_ ?_
           rotate_left
           ·go_simp
            rfl
           refine hK.out _ _ ⟨((cell_far (p := ⟨gb153, _, none⟩) NB144_153.out _).trans (((cell_far (p := ⟨gb153, _, none⟩) NB144_153.out _).trans (hHeld.1)))), ((cell_far (p := ⟨gb153, _, none⟩) NB144_153.out _).trans (((cell_far (p := ⟨gb153, _, none⟩) NB144_153.out _).trans (hHeld.2.1)))), ((cell_far (p := ⟨gb153, _, none⟩) NB144_153.out _).trans (((cell_far (p := ⟨gb153, _, none⟩) NB144_153.out _).trans (hHeld.2.2.1)))), ((cell_far (p := ⟨gb153, _, none⟩) NB144_153.out _).trans (((cell_far (p := ⟨gb153, _, none⟩) NB144_153.out _).trans (hHeld.2.2.2.1)))), ((cell_far (p := ⟨gb153, _, none⟩) (by first | exact Nat.ne_of_lt (Nat.lt_of_lt_of_le (by have := World.block_lt_of_cell? _ _ hw151_0; first | rwa [add_block] at this | exact this) GW153.out) | (rw [add_block]; exact Nat.ne_of_lt (Nat.lt_of_lt_of_le (by have := World.block_lt_of_cell? _ _ hw151_0; first | rwa [add_block] at this | exact this) GW153.out)) | (show (Addr.add _ _).block ≠ _; rw [add_block]; exact Nat.ne_of_lt (Nat.lt_of_lt_of_le (by have := World.block_lt_of_cell? _ _ hw151_0; first | rwa [add_block] at this | exact this) GW153.out)) | (dsimp only; exact Nat.ne_of_lt (Nat.lt_of_lt_of_le (by have := World.block_lt_of_cell? _ _ hw151_0; first | rwa [add_block] at this | exact this) GW153.out))) _).trans (((cell_far (p := ⟨gb153, _, none⟩) (by first | exact Nat.ne_of_lt (Nat.lt_of_lt_of_le (by have := World.block_lt_of_cell? _ _ hw151_0; first | rwa [add_block] at this | exact this) GW153.out) | (rw [add_block]; exact Nat.ne_of_lt (Nat.lt_of_lt_of_le (by have := World.block_lt_of_cell? _ _ hw151_0; first | rwa [add_block] at this | exact this) GW153.out)) | (show (Addr.add _ _).block ≠ _; rw [add_block]; exact Nat.ne_of_lt (Nat.lt_of_lt_of_le (by have := World.block_lt_of_cell? _ _ hw151_0; first | rwa [add_block] at this | exact this) GW153.out)) | (dsimp only; exact Nat.ne_of_lt (Nat.lt_of_lt_of_le (by have := World.block_lt_of_cell? _ _ hw151_0; first | rwa [add_block] at this | exact this) GW153.out))) _).trans (hHeld.2.2.2.2.1)))), ((cell_far (p := ⟨gb153, _, none⟩) (by first | exact Nat.ne_of_lt (Nat.lt_of_lt_of_le (by have := World.block_lt_of_cell? _ _ hw151_1; first | rwa [add_block] at this | exact this) GW153.out) | (rw [add_block]; exact Nat.ne_of_lt (Nat.lt_of_lt_of_le (by have := World.block_lt_of_cell? _ _ hw151_1; first | rwa [add_block] at this | exact this) GW153.out)) | (show (Addr.add _ _).block ≠ _; rw [add_block]; exact Nat.ne_of_lt (Nat.lt_of_lt_of_le (by have := World.block_lt_of_cell? _ _ hw151_1; first | rwa [add_block] at this | exact this) GW153.out)) | (dsimp only; exact Nat.ne_of_lt (Nat.lt_of_lt_of_le (by have := World.block_lt_of_cell? _ _ hw151_1; first | rwa [add_block] at this | exact this) GW153.out))) _).trans (((cell_far (p := ⟨gb153, _, none⟩) (by first | exact Nat.ne_of_lt (Nat.lt_of_lt_of_le (by have := World.block_lt_of_cell? _ _ hw151_1; first | rwa [add_block] at this | exact this) GW153.out) | (rw [add_block]; exact Nat.ne_of_lt (Nat.lt_of_lt_of_le (by have := World.block_lt_of_cell? _ _ hw151_1; first | rwa [add_block] at this | exact this) GW153.out)) | (show (Addr.add _ _).block ≠ _; rw [add_block]; exact Nat.ne_of_lt (Nat.lt_of_lt_of_le (by have := World.block_lt_of_cell? _ _ hw151_1; first | rwa [add_block] at this | exact this) GW153.out)) | (dsimp only; exact Nat.ne_of_lt (Nat.lt_of_lt_of_le (by have := World.block_lt_of_cell? _ _ hw151_1; first | rwa [add_block] at this | exact this) GW153.out))) _).trans (hHeld.2.2.2.2.2.1)))), ((cell_far (p := ⟨gb153, _, none⟩) (by first | exact Nat.ne_of_lt (Nat.lt_of_lt_of_le (by have := World.block_lt_of_cell? _ _ hw152_0; first | rwa [add_block] at this | exact this) GW153.out) | (rw [add_block]; exact Nat.ne_of_lt (Nat.lt_of_lt_of_le (by have := World.block_lt_of_cell? _ _ hw152_0; first | rwa [add_block] at this | exact this) GW153.out)) | (show (Addr.add _ _).block ≠ _; rw [add_block]; exact Nat.ne_of_lt (Nat.lt_of_lt_of_le (by have := World.block_lt_of_cell? _ _ hw152_0; first | rwa [add_block] at this | exact this) GW153.out)) | (dsimp only; exact Nat.ne_of_lt (Nat.lt_of_lt_of_le (by have := World.block_lt_of_cell? _ _ hw152_0; first | rwa [add_block] at this | exact this) GW153.out))) _).trans (((cell_far (p := ⟨gb153, _, none⟩) (by first | exact Nat.ne_of_lt (Nat.lt_of_lt_of_le (by have := World.block_lt_of_cell? _ _ hw152_0; first | rwa [add_block] at this | exact this) GW153.out) | (rw [add_block]; exact Nat.ne_of_lt (Nat.lt_of_lt_of_le (by have := World.block_lt_of_cell? _ _ hw152_0; first | rwa [add_block] at this | exact this) GW153.out)) | (show (Addr.add _ _).block ≠ _; rw [add_block]; exact Nat.ne_of_lt (Nat.lt_of_lt_of_le (by have := World.block_lt_of_cell? _ _ hw152_0; first | rwa [add_block] at this | exact this) GW153.out)) | (dsimp only; exact Nat.ne_of_lt (Nat.lt_of_lt_of_le (by have := World.block_lt_of_cell? _ _ hw152_0; first | rwa [add_block] at this | exact this) GW153.out))) _).trans (hHeld.2.2.2.2.2.2.1)))), ((cell_far (p := ⟨gb153, _, none⟩) (by first | exact Nat.ne_of_lt (Nat.lt_of_lt_of_le (by have := World.block_lt_of_cell? _ _ hw152_1; first | rwa [add_block] at this | exact this) GW153.out) | (rw [add_block]; exact Nat.ne_of_lt (Nat.lt_of_lt_of_le (by have := World.block_lt_of_cell? _ _ hw152_1; first | rwa [add_block] at this | exact this) GW153.out)) | (show (Addr.add _ _).block ≠ _; rw [add_block]; exact Nat.ne_of_lt (Nat.lt_of_lt_of_le (by have := World.block_lt_of_cell? _ _ hw152_1; first | rwa [add_block] at this | exact this) GW153.out)) | (dsimp only; exact Nat.ne_of_lt (Nat.lt_of_lt_of_le (by have := World.block_lt_of_cell? _ _ hw152_1; first | rwa [add_block] at this | exact this) GW153.out))) _).trans (((cell_far (p := ⟨gb153, _, none⟩) (by first | exact Nat.ne_of_lt (Nat.lt_of_lt_of_le (by have := World.block_lt_of_cell? _ _ hw152_1; first | rwa [add_block] at this | exact this) GW153.out) | (rw [add_block]; exact Nat.ne_of_lt (Nat.lt_of_lt_of_le (by have := World.block_lt_of_cell? _ _ hw152_1; first | rwa [add_block] at this | exact this) GW153.out)) | (show (Addr.add _ _).block ≠ _; rw [add_block]; exact Nat.ne_of_lt (Nat.lt_of_lt_of_le (by have := World.block_lt_of_cell? _ _ hw152_1; first | rwa [add_block] at this | exact this) GW153.out)) | (dsimp only; exact Nat.ne_of_lt (Nat.lt_of_lt_of_le (by have := World.block_lt_of_cell? _ _ hw152_1; first | rwa [add_block] at this | exact this) GW153.out))) _).trans (hHeld.2.2.2.2.2.2.2))))⟩ (fun hHeld => ?_)
           clear hK K
           refine one_ (i := 24) (N := none) (bs 25 33554431) rfl rfl (one_of HT_.out (by kernel_rfl)) (by decide) (fun K hK => ?_)
           have hs43 : w40.cell? ⟨gb154, 0, none⟩ = some (.int .i64 0) := (blk_cell BK154.out 0).trans rfl
           have hfs43 := blk_frozen BK154.out 0
           have hns43_0 := NB144_154.out
           have hns43_1 := NB145_154.out
           have hns43_2 := NB153_154.out
           have hms43_0 := NB154_144.out
           have hms43_1 := NB154_145.out
           have hms43_2 := NB154_153.out
           have hs44 : w40.cell? ⟨gb154, 1, none⟩ = some (.int .i64 0) := (blk_cell BK154.out 1).trans rfl
           have hfs44 := blk_frozen BK154.out 1
           have hns44_0 := NB144_154.out
           have hns44_1 := NB145_154.out
           have hns44_2 := NB153_154.out
           have hms44_0 := NB154_144.out
           have hms44_1 := NB154_145.out
           have hms44_2 := NB154_153.out
           refine skip_ (w1 := ?_) (by rfl) rfl ?_ ?_
           rotate_left
           ·go_simp
            rfl
           refine hK.out _ _ ⟨((cell_far (p := ⟨gb154, _, none⟩) NB144_154.out _).trans (((cell_far (p := ⟨gb154, _, none⟩) NB144_154.out _).trans (hHeld.1)))), ((cell_far (p := ⟨gb154, _, none⟩) NB144_154.out _).trans (((cell_far (p := ⟨gb154, _, none⟩) NB144_154.out _).trans (hHeld.2.1)))), ((cell_far (p := ⟨gb154, _, none⟩) NB144_154.out _).trans (((cell_far (p := ⟨gb154, _, none⟩) NB144_154.out _).trans (hHeld.2.2.1)))), ((cell_far (p := ⟨gb154, _, none⟩) NB144_154.out _).trans (((cell_far (p := ⟨gb154, _, none⟩) NB144_154.out _).trans (hHeld.2.2.2.1)))), ((cell_far (p := ⟨gb154, _, none⟩) (by first | exact Nat.ne_of_lt (Nat.lt_of_lt_of_le (by have := World.block_lt_of_cell? _ _ hw151_0; first | rwa [add_block] at this | exact this) GW154.out) | (rw [add_block]; exact Nat.ne_of_lt (Nat.lt_of_lt_of_le (by have := World.block_lt_of_cell? _ _ hw151_0; first | rwa [add_block] at this | exact this) GW154.out)) | (show (Addr.add _ _).block ≠ _; rw [add_block]; exact Nat.ne_of_lt (Nat.lt_of_lt_of_le (by have := World.block_lt_of_cell? _ _ hw151_0; first | rwa [add_block] at this | exact this) GW154.out)) | (dsimp only; exact Nat.ne_of_lt (Nat.lt_of_lt_of_le (by have := World.block_lt_of_cell? _ _ hw151_0; first | rwa [add_block] at this | exact this) GW154.out))) _).trans (((cell_far (p := ⟨gb154, _, none⟩) (by first | exact Nat.ne_of_lt (Nat.lt_of_lt_of_le (by have := World.block_lt_of_cell? _ _ hw151_0; first | rwa [add_block] at this | exact this) GW154.out) | (rw [add_block]; exact Nat.ne_of_lt (Nat.lt_of_lt_of_le (by have := World.block_lt_of_cell? _ _ hw151_0; first | rwa [add_block] at this | exact this) GW154.out)) | (show (Addr.add _ _).block ≠ _; rw [add_block]; exact Nat.ne_of_lt (Nat.lt_of_lt_of_le (by have := World.block_lt_of_cell? _ _ hw151_0; first | rwa [add_block] at this | exact this) GW154.out)) | (dsimp only; exact Nat.ne_of_lt (Nat.lt_of_lt_of_le (by have := World.block_lt_of_cell? _ _ hw151_0; first | rwa [add_block] at this | exact this) GW154.out))) _).trans (hHeld.2.2.2.2.1)))), ((cell_far (p := ⟨gb154, _, none⟩) (by first | exact Nat.ne_of_lt (Nat.lt_of_lt_of_le (by have := World.block_lt_of_cell? _ _ hw151_1; first | rwa [add_block] at this | exact this) GW154.out) | (rw [add_block]; exact Nat.ne_of_lt (Nat.lt_of_lt_of_le (by have := World.block_lt_of_cell? _ _ hw151_1; first | rwa [add_block] at this | exact this) GW154.out)) | (show (Addr.add _ _).block ≠ _; rw [add_block]; exact Nat.ne_of_lt (Nat.lt_of_lt_of_le (by have := World.block_lt_of_cell? _ _ hw151_1; first | rwa [add_block] at this | exact this) GW154.out)) | (dsimp only; exact Nat.ne_of_lt (Nat.lt_of_lt_of_le (by have := World.block_lt_of_cell? _ _ hw151_1; first | rwa [add_block] at this | exact this) GW154.out))) _).trans (((cell_far (p := ⟨gb154, _, none⟩) (by first | exact Nat.ne_of_lt (Nat.lt_of_lt_of_le (by have := World.block_lt_of_cell? _ _ hw151_1; first | rwa [add_block] at this | exact this) GW154.out) | (rw [add_block]; exact Nat.ne_of_lt (Nat.lt_of_lt_of_le (by have := World.block_lt_of_cell? _ _ hw151_1; first | rwa [add_block] at this | exact this) GW154.out)) | (show (Addr.add _ _).block ≠ _; rw [add_block]; exact Nat.ne_of_lt (Nat.lt_of_lt_of_le (by have := World.block_lt_of_cell? _ _ hw151_1; first | rwa [add_block] at this | exact this) GW154.out)) | (dsimp only; exact Nat.ne_of_lt (Nat.lt_of_lt_of_le (by have := World.block_lt_of_cell? _ _ hw151_1; first | rwa [add_block] at this | exact this) GW154.out))) _).trans (hHeld.2.2.2.2.2.1)))), ((cell_far (p := ⟨gb154, _, none⟩) (by first | exact Nat.ne_of_lt (Nat.lt_of_lt_of_le (by have := World.block_lt_of_cell? _ _ hw152_0; first | rwa [add_block] at this | exact this) GW154.out) | (rw [add_block]; exact Nat.ne_of_lt (Nat.lt_of_lt_of_le (by have := World.block_lt_of_cell? _ _ hw152_0; first | rwa [add_block] at this | exact this) GW154.out)) | (show (Addr.add _ _).block ≠ _; rw [add_block]; exact Nat.ne_of_lt (Nat.lt_of_lt_of_le (by have := World.block_lt_of_cell? _ _ hw152_0; first | rwa [add_block] at this | exact this) GW154.out)) | (dsimp only; exact Nat.ne_of_lt (Nat.lt_of_lt_of_le (by have := World.block_lt_of_cell? _ _ hw152_0; first | rwa [add_block] at this | exact this) GW154.out))) _).trans (((cell_far (p := ⟨gb154, _, none⟩) (by first | exact Nat.ne_of_lt (Nat.lt_of_lt_of_le (by have := World.block_lt_of_cell? _ _ hw152_0; first | rwa [add_block] at this | exact this) GW154.out) | (rw [add_block]; exact Nat.ne_of_lt (Nat.lt_of_lt_of_le (by have := World.block_lt_of_cell? _ _ hw152_0; first | rwa [add_block] at this | exact this) GW154.out)) | (show (Addr.add _ _).block ≠ _; rw [add_block]; exact Nat.ne_of_lt (Nat.lt_of_lt_of_le (by have := World.block_lt_of_cell? _ _ hw152_0; first | rwa [add_block] at this | exact this) GW154.out)) | (dsimp only; exact Nat.ne_of_lt (Nat.lt_of_lt_of_le (by have := World.block_lt_of_cell? _ _ hw152_0; first | rwa [add_block] at this | exact this) GW154.out))) _).trans (hHeld.2.2.2.2.2.2.1)))), ((cell_far (p := ⟨gb154, _, none⟩) (by first | exact Nat.ne_of_lt (Nat.lt_of_lt_of_le (by have := World.block_lt_of_cell? _ _ hw152_1; first | rwa [add_block] at this | exact this) GW154.out) | (rw [add_block]; exact Nat.ne_of_lt (Nat.lt_of_lt_of_le (by have := World.block_lt_of_cell? _ _ hw152_1; first | rwa [add_block] at this | exact this) GW154.out)) | (show (Addr.add _ _).block ≠ _; rw [add_block]; exact Nat.ne_of_lt (Nat.lt_of_lt_of_le (by have := World.block_lt_of_cell? _ _ hw152_1; first | rwa [add_block] at this | exact this) GW154.out)) | (dsimp only; exact Nat.ne_of_lt (Nat.lt_of_lt_of_le (by have := World.block_lt_of_cell? _ _ hw152_1; first | rwa [add_block] at this | exact this) GW154.out))) _).trans (((cell_far (p := ⟨gb154, _, none⟩) (by first | exact Nat.ne_of_lt (Nat.lt_of_lt_of_le (by have := World.block_lt_of_cell? _ _ hw152_1; first | rwa [add_block] at this | exact this) GW154.out) | (rw [add_block]; exact Nat.ne_of_lt (Nat.lt_of_lt_of_le (by have := World.block_lt_of_cell? _ _ hw152_1; first | rwa [add_block] at this | exact this) GW154.out)) | (show (Addr.add _ _).block ≠ _; rw [add_block]; exact Nat.ne_of_lt (Nat.lt_of_lt_of_le (by have := World.block_lt_of_cell? _ _ hw152_1; first | rwa [add_block] at this | exact this) GW154.out)) | (dsimp only; exact Nat.ne_of_lt (Nat.lt_of_lt_of_le (by have := World.block_lt_of_cell? _ _ hw152_1; first | rwa [add_block] at this | exact this) GW154.out))) _).trans (hHeld.2.2.2.2.2.2.2))))⟩ (fun hHeld => ?_)
           clear hK K
           refine done_ (done_of HT_.out (by kernel_rfl)) ?_
           try go_wp2
           have n0_ : Aside0 (((((w40.setCell ⟨gb153, 0, none⟩ (.int .i64 ((rd_T28 l0_3 (ji11)).f0))).setCell ⟨gb153, 1, none⟩ (.int .i64 ((rd_T28 l0_3 (ji11)).f1))).setCell ⟨gb154, 0, none⟩ (.int .i64 ((rd_T28 l0_3 (ji14)).f0))).setCell ⟨gb154, 1, none⟩ (.int .i64 ((rd_T28 l0_3 (ji14)).f1))).heap[gb144]? = some (.cells #[.int .i64 a0_0, .int .i64 a0_1, .int .i64 a0_2, .slice (some ad151) l0_3.length c0_3] 24 (0, 0))) := ⟨by (with_reducible repeat (first | refine blk_drewN ?_ _ | refine blk_drew ?_ | refine blk_alloc ?_ _)); refine blk_far ?_ NB144_154.out _; (with_reducible repeat (first | refine blk_drewN ?_ _ | refine blk_drew ?_ | refine blk_alloc ?_ _)); refine blk_far ?_ NB144_154.out _; (with_reducible repeat (first | refine blk_drewN ?_ _ | refine blk_drew ?_ | refine blk_alloc ?_ _)); refine blk_far ?_ NB144_153.out _; (with_reducible repeat (first | refine blk_drewN ?_ _ | refine blk_drew ?_ | refine blk_alloc ?_ _)); refine blk_far ?_ NB144_153.out _; (with_reducible repeat (first | refine blk_drewN ?_ _ | refine blk_drew ?_ | refine blk_alloc ?_ _)); exact BK144.out⟩
           have n1_ : Aside0 (((((w40.setCell ⟨gb153, 0, none⟩ (.int .i64 ((rd_T28 l0_3 (ji11)).f0))).setCell ⟨gb153, 1, none⟩ (.int .i64 ((rd_T28 l0_3 (ji11)).f1))).setCell ⟨gb154, 0, none⟩ (.int .i64 ((rd_T28 l0_3 (ji14)).f0))).setCell ⟨gb154, 1, none⟩ (.int .i64 ((rd_T28 l0_3 (ji14)).f1))).heap[gb145]? = some (.cells #[.int .i64 0, .int .i64 0] 28 (0, 0))) := ⟨by (with_reducible repeat (first | refine blk_drewN ?_ _ | refine blk_drew ?_ | refine blk_alloc ?_ _)); refine blk_far ?_ NB145_154.out _; (with_reducible repeat (first | refine blk_drewN ?_ _ | refine blk_drew ?_ | refine blk_alloc ?_ _)); refine blk_far ?_ NB145_154.out _; (with_reducible repeat (first | refine blk_drewN ?_ _ | refine blk_drew ?_ | refine blk_alloc ?_ _)); refine blk_far ?_ NB145_153.out _; (with_reducible repeat (first | refine blk_drewN ?_ _ | refine blk_drew ?_ | refine blk_alloc ?_ _)); refine blk_far ?_ NB145_153.out _; (with_reducible repeat (first | refine blk_drewN ?_ _ | refine blk_drew ?_ | refine blk_alloc ?_ _)); exact BK145.out⟩
           have n2_ : Aside0 (((((w40.setCell ⟨gb153, 0, none⟩ (.int .i64 ((rd_T28 l0_3 (ji11)).f0))).setCell ⟨gb153, 1, none⟩ (.int .i64 ((rd_T28 l0_3 (ji11)).f1))).setCell ⟨gb154, 0, none⟩ (.int .i64 ((rd_T28 l0_3 (ji14)).f0))).setCell ⟨gb154, 1, none⟩ (.int .i64 ((rd_T28 l0_3 (ji14)).f1))).heap[gb153]? = some (.cells #[.int .i64 ((rd_T28 l0_3 (ji11)).f0), .int .i64 ((rd_T28 l0_3 (ji11)).f1)] 28 (0, 0))) := ⟨by (with_reducible repeat (first | refine blk_drewN ?_ _ | refine blk_drew ?_ | refine blk_alloc ?_ _)); refine blk_far ?_ NB153_154.out _; (with_reducible repeat (first | refine blk_drewN ?_ _ | refine blk_drew ?_ | refine blk_alloc ?_ _)); refine blk_far ?_ NB153_154.out _; (with_reducible repeat (first | refine blk_drewN ?_ _ | refine blk_drew ?_ | refine blk_alloc ?_ _)); refine blk_put (cs := #[.int .i64 ((rd_T28 l0_3 (ji11)).f0), .int .i64 0]) ?_ 1 _ rfl; (with_reducible repeat (first | refine blk_drewN ?_ _ | refine blk_drew ?_ | refine blk_alloc ?_ _)); refine blk_put (cs := #[.int .i64 0, .int .i64 0]) ?_ 0 _ rfl; (with_reducible repeat (first | refine blk_drewN ?_ _ | refine blk_drew ?_ | refine blk_alloc ?_ _)); exact BK153.out⟩
           have n3_ : Aside0 (((((w40.setCell ⟨gb153, 0, none⟩ (.int .i64 ((rd_T28 l0_3 (ji11)).f0))).setCell ⟨gb153, 1, none⟩ (.int .i64 ((rd_T28 l0_3 (ji11)).f1))).setCell ⟨gb154, 0, none⟩ (.int .i64 ((rd_T28 l0_3 (ji14)).f0))).setCell ⟨gb154, 1, none⟩ (.int .i64 ((rd_T28 l0_3 (ji14)).f1))).heap[gb154]? = some (.cells #[.int .i64 ((rd_T28 l0_3 (ji14)).f0), .int .i64 ((rd_T28 l0_3 (ji14)).f1)] 28 (0, 0))) := ⟨by (with_reducible repeat (first | refine blk_drewN ?_ _ | refine blk_drew ?_ | refine blk_alloc ?_ _)); refine blk_put (cs := #[.int .i64 ((rd_T28 l0_3 (ji14)).f0), .int .i64 0]) ?_ 1 _ rfl; (with_reducible repeat (first | refine blk_drewN ?_ _ | refine blk_drew ?_ | refine blk_alloc ?_ _)); refine blk_put (cs := #[.int .i64 0, .int .i64 0]) ?_ 0 _ rfl; (with_reducible repeat (first | refine blk_drewN ?_ _ | refine blk_drew ?_ | refine blk_alloc ?_ _)); refine blk_far ?_ NB154_153.out _; (with_reducible repeat (first | refine blk_drewN ?_ _ | refine blk_drew ?_ | refine blk_alloc ?_ _)); refine blk_far ?_ NB154_153.out _; (with_reducible repeat (first | refine blk_drewN ?_ _ | refine blk_drew ?_ | refine blk_alloc ?_ _)); exact BK154.out⟩
           have n4_ : Aside0 (Below w.heap.size w ((((w40.setCell ⟨gb153, 0, none⟩ (.int .i64 ((rd_T28 l0_3 (ji11)).f0))).setCell ⟨gb153, 1, none⟩ (.int .i64 ((rd_T28 l0_3 (ji11)).f1))).setCell ⟨gb154, 0, none⟩ (.int .i64 ((rd_T28 l0_3 (ji14)).f0))).setCell ⟨gb154, 1, none⟩ (.int .i64 ((rd_T28 l0_3 (ji14)).f1)))) := ⟨by repeat (first | (with_reducible first | exact HB.out | apply below_alloc | apply pw_below_drewN | apply below_drew1 | refine below_set ?_ GE153.out | refine below_set ?_ GE154.out) | exact HB.out)⟩
           (try clear BK144)
           (try clear BK145)
           (try clear BK153)
           (try clear BK154)
           (try clear HB)
           generalize ((((w40.setCell ⟨gb153, 0, none⟩ (.int .i64 ((rd_T28 l0_3 (ji11)).f0))).setCell ⟨gb153, 1, none⟩ (.int .i64 ((rd_T28 l0_3 (ji11)).f1))).setCell ⟨gb154, 0, none⟩ (.int .i64 ((rd_T28 l0_3 (ji14)).f0))).setCell ⟨gb154, 1, none⟩ (.int .i64 ((rd_T28 l0_3 (ji14)).f1))) = w45 at n0_ n1_ n2_ n3_ n4_ ⊢
           have BK144 := n0_
           have BK145 := n1_
           have BK153 := n2_
           have BK154 := n3_
           have HB := n4_
           clear n0_ n1_ n2_ n3_ n4_
           replace BK144 := zkd BK144
           replace BK145 := zkd BK145
           replace BK153 := zkd BK153
           replace BK154 := zkd BK154
           replace HB := zbd HB
           have p155 : 0 ≤ ((ji17) : Int) := of_decide_eq_true (by first | (with_reducible assumption) | assumption)
           have q155 : (ji17) < (l0_3.length : Int) := of_decide_eq_true (by first | (with_reducible assumption) | assumption)
           obtain ⟨ad155, e155, hx155_0, hx155_1⟩ := at_T28 HR0_3.out (ji17) p155 q155
           have hw155_1 := hx155_1
           have hw155_0 := hx155_0
           obtain rfl : ad151 = ad155 := (by injection e155)
           replace hx155_0 := (HB.out.cell (World.block_lt_of_cell? w _ hx155_0)).trans hx155_0
           replace hx155_1 := (HB.out.cell (World.block_lt_of_cell? w _ hx155_1)).trans hx155_1
           replace p155 := eq_true p155
           replace q155 := eq_true q155
           have p156 : 0 ≤ ((ji20) : Int) := of_decide_eq_true (by first | (with_reducible assumption) | assumption)
           have q156 : (ji20) < (l0_3.length : Int) := of_decide_eq_true (by first | (with_reducible assumption) | assumption)
           obtain ⟨ad156, e156, hx156_0, hx156_1⟩ := at_T28 HR0_3.out (ji20) p156 q156
           have hw156_1 := hx156_1
           have hw156_0 := hx156_0
           obtain rfl : ad151 = ad156 := (by injection e156)
           replace hx156_0 := (HB.out.cell (World.block_lt_of_cell? w _ hx156_0)).trans hx156_0
           replace hx156_1 := (HB.out.cell (World.block_lt_of_cell? w _ hx156_1)).trans hx156_1
           replace p156 := eq_true p156
           replace q156 := eq_true q156
           refine start_ (n := 27) (S := fun w' => w'.cell? ⟨gb144, 0, none⟩ = some (.int .i64 a0_0) ∧ w'.cell? ⟨gb144, 1, none⟩ = some (.int .i64 a0_1) ∧ w'.cell? ⟨gb144, 2, none⟩ = some (.int .i64 a0_2) ∧ w'.cell? ⟨gb144, 3, none⟩ = some (.slice (some ad151) l0_3.length c0_3) ∧ w'.cell? (ad151.add (((ji17)).toNat * 2)) = some (.int .i64 ((rd_T28 l0_3 (ji17)).f0)) ∧ w'.cell? ⟨(ad151.add (((ji17)).toNat * 2)).block, (ad151.add (((ji17)).toNat * 2)).off + 1, none⟩ = some (.int .i64 ((rd_T28 l0_3 (ji17)).f1)) ∧ w'.cell? (ad151.add (((ji20)).toNat * 2)) = some (.int .i64 ((rd_T28 l0_3 (ji20)).f0)) ∧ w'.cell? ⟨(ad151.add (((ji20)).toNat * 2)).block, (ad151.add (((ji20)).toNat * 2)).off + 1, none⟩ = some (.int .i64 ((rd_T28 l0_3 (ji20)).f1))) (ds := []) (bs 27 0) (by kernel_rfl) rfl rfl ⟨(blk_cell BK144.out 0).trans rfl, (blk_cell BK144.out 1).trans rfl, (blk_cell BK144.out 2).trans rfl, (blk_cell BK144.out 3).trans rfl, ((HB.out.cell (World.block_lt_of_cell? w _ hw155_0)).trans hw155_0), ((HB.out.cell (World.block_lt_of_cell? w _ hw155_1)).trans hw155_1), ((HB.out.cell (World.block_lt_of_cell? w _ hw156_0)).trans hw156_0), ((HB.out.cell (World.block_lt_of_cell? w _ hw156_1)).trans hw156_1)⟩ (fun hHeld => ?_); refine with_tabW imageeditorref15_At.tab8 imageeditorref15_At.bits8 (fun HT_ HW_ => ?_)
           generalize w45.drew = w46 at BK144 BK145 BK153 BK154 HB hx155_0 hx155_1 hx156_0 hx156_1 hHeld ⊢
           refine pure_ (i := 0) (N := some 87) (v := ?_) (a' := ?_) (bs 27 1) rfl rfl (any_of HT_.out (by kernel_rfl)) (fun _ _ _ h => h) (Or.inl ⟨by rfl, ?_⟩) ?_ ?_
           rotate_left
           ·intro w'
            go_simp
            with_reducible rfl
           rotate_left
           ·simp only [Act.put, sA, sB, sC, i64_w, i32_w]
            rfl
           refine pure_ (i := 2) (N := some 89) (v := ?_) (a' := ?_) (bs 27 5) rfl rfl (any_of HT_.out (by kernel_rfl)) (fun _ _ _ h => h) (Or.inl ⟨by rfl, ?_⟩) ?_ ?_
           rotate_left
           ·intro w'
            go_simp
            with_reducible rfl
           rotate_left
           ·simp only [Act.put, sA, sB, sC, i64_w, i32_w]
            rfl
           refine pure_ (i := 3) (N := some 90) (v := ?_) (a' := ?_) (bs 27 13) rfl rfl (any_of HT_.out (by kernel_rfl)) (fun _ _ _ h => h) (Or.inl ⟨by rfl, ?_⟩) ?_ ?_
           rotate_left
           ·intro w'
            go_simp
            with_reducible rfl
           rotate_left
           ·simp only [Act.put, sA, sB, sC, i64_w, i32_w]
            rfl
           refine pure_ (i := 4) (N := some 91) (v := ?_) (a' := ?_) (bs 27 29) rfl rfl (any_of HT_.out (by kernel_rfl)) (fun _ _ _ h => h) (Or.inl ⟨by rfl, ?_⟩) ?_ ?_
           rotate_left
           ·intro w'
            go_simp
            with_reducible rfl
           rotate_left
           ·simp only [Act.put, sA, sB, sC, i64_w, i32_w]
            rfl
           refine pure_ (i := 7) (N := some 94) (v := ?_) (a' := ?_) (bs 27 157) rfl rfl (any_of HT_.out (by kernel_rfl)) (fun _ _ _ h => h) (Or.inl ⟨by rfl, ?_⟩) ?_ ?_
           rotate_left
           ·intro w'
            go_simp
            with_reducible rfl
           rotate_left
           ·simp only [Act.put, sA, sB, sC, i64_w, i32_w]
            rfl
           refine pure_ (i := 11) (N := some 98) (v := ?_) (a' := ?_) (bs 27 2205) rfl rfl (any_of HT_.out (by kernel_rfl)) (fun _ _ _ h => h) (Or.inl ⟨by rfl, ?_⟩) ?_ ?_
           rotate_left
           ·intro w'
            go_simp
            with_reducible rfl
           rotate_left
           ·simp only [Act.put, sA, sB, sC, i64_w, i32_w]
            rfl
           refine pure_ (i := 13) (N := some 100) (v := ?_) (a' := ?_) (bs 27 10397) rfl rfl (any_of HT_.out (by kernel_rfl)) (fun _ _ _ h => h) (Or.inl ⟨by rfl, ?_⟩) ?_ ?_
           rotate_left
           ·intro w'
            go_simp
            with_reducible rfl
           rotate_left
           ·simp only [Act.put, sA, sB, sC, i64_w, i32_w]
            rfl
           refine pure_ (i := 14) (N := some 101) (v := ?_) (a' := ?_) (bs 27 26781) rfl rfl (any_of HT_.out (by kernel_rfl)) (fun _ _ _ h => h) (Or.inl ⟨by rfl, ?_⟩) ?_ ?_
           rotate_left
           ·intro w'
            go_simp
            with_reducible rfl
           rotate_left
           ·simp only [Act.put, sA, sB, sC, i64_w, i32_w]
            rfl
           refine pure_ (i := 15) (N := some 102) (v := ?_) (a' := ?_) (bs 27 59549) rfl rfl (any_of HT_.out (by kernel_rfl)) (fun _ _ _ h => h) (Or.inl ⟨by rfl, ?_⟩) ?_ ?_
           rotate_left
           ·intro w'
            go_simp
            with_reducible rfl
           rotate_left
           ·simp only [Act.put, sA, sB, sC, i64_w, i32_w]
            rfl
           refine pure_ (i := 18) (N := some 105) (v := ?_) (a' := ?_) (bs 27 321693) rfl rfl (any_of HT_.out (by kernel_rfl)) (fun _ _ _ h => h) (Or.inl ⟨by rfl, ?_⟩) ?_ ?_
           rotate_left
           ·intro w'
            go_simp
            with_reducible rfl
           rotate_left
           ·simp only [Act.put, sA, sB, sC, i64_w, i32_w]
            rfl
           refine take_ (i := 1) (N := some 88) (v := ?_) (a' := ?_) (bs 27 321695) rfl rfl (take_ofW HT_.out HW_.out (by kernel_rfl)) (fun _ _ _ h => h) (Or.inl ⟨by rfl, ?_⟩) hHeld ?_ ?_
           rotate_left
           ·rintro w' ⟨s0, s1, s2, s3, s4, s5, s6, s7⟩
            go_simp
            with_reducible rfl
           rotate_left
           ·simp only [Act.put, sA, sB, sC, i64_w, i32_w]
            rfl
           refine take_ (i := 5) (N := some 92) (v := ?_) (a' := ?_) (bs 27 321727) rfl rfl (take_ofW HT_.out HW_.out (by kernel_rfl)) (fun _ _ _ h => h) (Or.inl ⟨by rfl, ?_⟩) hHeld ?_ ?_
           rotate_left
           ·rintro w' ⟨s0, s1, s2, s3, s4, s5, s6, s7⟩
            go_simp
            with_reducible rfl
           rotate_left
           ·simp only [Act.put, sA, sB, sC, i64_w, i32_w]
            rfl
           refine pure_ (i := 6) (N := some 93) (v := ?_) (a' := ?_) (bs 27 321791) rfl rfl (any_of HT_.out (by kernel_rfl)) (fun _ _ _ h => h) (Or.inl ⟨by rfl, ?_⟩) ?_ ?_
           rotate_left
           ·intro w'
            go_simp
            with_reducible rfl
           rotate_left
           ·simp only [Act.put, sA, sB, sC, i64_w, i32_w]
            rfl
           refine pure_ (i := 8) (N := some 95) (v := ?_) (a' := ?_) (bs 27 322047) rfl rfl (any_of HT_.out (by kernel_rfl)) (fun _ _ _ h => h) (Or.inl ⟨by rfl, ?_⟩) ?_ ?_
           rotate_left
           ·intro w'
            go_simp
            with_reducible rfl
           rotate_left
           ·simp only [Act.put, sA, sB, sC, i64_w, i32_w]
            rfl
           refine pure_ (i := 9) (N := some 96) (v := ?_) (a' := ?_) (bs 27 322559) rfl rfl (any_of HT_.out (by kernel_rfl)) (fun _ _ _ h => h) (Or.inl ⟨by rfl, ?_⟩) ?_ ?_
           rotate_left
           ·intro w'
            go_simp
            with_reducible rfl
           rotate_left
           ·simp only [Act.put, sA, sB, sC, i64_w, i32_w]
            rfl
           refine take_ (i := 10) (N := some 97) (v := ?_) (a' := ?_) (bs 27 323583) rfl rfl (take_ofW HT_.out HW_.out (by kernel_rfl)) (fun _ _ _ h => h) (Or.inl ⟨by rfl, ?_⟩) hHeld ?_ ?_
           rotate_left
           ·rintro w' ⟨s0, s1, s2, s3, s4, s5, s6, s7⟩
            go_simp
            with_reducible rfl
           rotate_left
           ·simp only [Act.put, sA, sB, sC, i64_w, i32_w]
            rfl
           refine take_ (i := 12) (N := some 99) (v := ?_) (a' := ?_) (bs 27 327679) rfl rfl (take_ofW HT_.out HW_.out (by kernel_rfl)) (fun _ _ _ h => h) (Or.inl ⟨by rfl, ?_⟩) hHeld ?_ ?_
           rotate_left
           ·rintro w' ⟨s0, s1, s2, s3, s4, s5, s6, s7⟩
            go_simp
            with_reducible rfl
           rotate_left
           ·simp only [Act.put, sA, sB, sC, i64_w, i32_w]
            rfl
           refine take_ (i := 16) (N := some 103) (v := ?_) (a' := ?_) (bs 27 393215) rfl rfl (take_ofW HT_.out HW_.out (by kernel_rfl)) (fun _ _ _ h => h) (Or.inl ⟨by rfl, ?_⟩) hHeld ?_ ?_
           rotate_left
           ·rintro w' ⟨s0, s1, s2, s3, s4, s5, s6, s7⟩
            go_simp
            with_reducible rfl
           rotate_left
           ·simp only [Act.put, sA, sB, sC, i64_w, i32_w]
            rfl
           refine pure_ (i := 17) (N := some 104) (v := ?_) (a' := ?_) (bs 27 524287) rfl rfl (any_of HT_.out (by kernel_rfl)) (fun _ _ _ h => h) (Or.inl ⟨by rfl, ?_⟩) ?_ ?_
           rotate_left
           ·intro w'
            go_simp
            with_reducible rfl
           rotate_left
           ·simp only [Act.put, sA, sB, sC, i64_w, i32_w]
            rfl
           refine pure_ (i := 19) (N := some 106) (v := ?_) (a' := ?_) (bs 27 1048575) rfl rfl (any_of HT_.out (by kernel_rfl)) (fun _ _ _ h => h) (Or.inl ⟨by rfl, ?_⟩) ?_ ?_
           rotate_left
           ·intro w'
            go_simp
            with_reducible rfl
           rotate_left
           ·simp only [Act.put, sA, sB, sC, i64_w, i32_w]
            rfl
           refine pure_ (i := 20) (N := some 107) (v := ?_) (a' := ?_) (bs 27 2097151) rfl rfl (any_of HT_.out (by kernel_rfl)) (fun _ _ _ h => h) (Or.inl ⟨by rfl, ?_⟩) ?_ ?_
           rotate_left
           ·intro w'
            go_simp
            with_reducible rfl
           rotate_left
           ·simp only [Act.put, sA, sB, sC, i64_w, i32_w]
            rfl
           refine pure_ (i := 21) (N := some 108) (v := ?_) (a' := ?_) (bs 27 4194303) rfl rfl (any_of HT_.out (by kernel_rfl)) (fun _ _ _ h => h) (Or.inl ⟨by rfl, ?_⟩) ?_ ?_
           rotate_left
           ·intro w'
            go_simp
            with_reducible rfl
           rotate_left
           ·simp only [Act.put, sA, sB, sC, i64_w, i32_w]
            rfl
           refine take_ (i := 22) (N := some 109) (v := ?_) (a' := ?_) (bs 27 8388607) rfl rfl (take_ofW HT_.out HW_.out (by kernel_rfl)) (fun _ _ _ h => h) (Or.inl ⟨by rfl, ?_⟩) hHeld ?_ ?_
           rotate_left
           ·rintro w' ⟨s0, s1, s2, s3, s4, s5, s6, s7⟩
            go_simp
            with_reducible rfl
           rotate_left
           ·simp only [Act.put, sA, sB, sC, i64_w, i32_w]
            rfl
           refine join_ (σ := Nat × Nat) 2 (bs 27 33554431) (fun s_ => [(16, .pointer (some ⟨s_.1, 0, none⟩)), (17, .pointer (some ⟨s_.2, 0, none⟩))]) (fun s_ w' => (w'.cell? ⟨gb144, 0, none⟩ = some (.int .i64 a0_0) ∧ w'.cell? ⟨gb144, 1, none⟩ = some (.int .i64 a0_1) ∧ w'.cell? ⟨gb144, 2, none⟩ = some (.int .i64 a0_2) ∧ w'.cell? ⟨gb144, 3, none⟩ = some (.slice (some ad151) l0_3.length c0_3) ∧ w'.cell? (ad151.add (((ji17)).toNat * 2)) = some (.int .i64 ((rd_T28 l0_3 (ji17)).f0)) ∧ w'.cell? ⟨(ad151.add (((ji17)).toNat * 2)).block, (ad151.add (((ji17)).toNat * 2)).off + 1, none⟩ = some (.int .i64 ((rd_T28 l0_3 (ji17)).f1)) ∧ w'.cell? (ad151.add (((ji20)).toNat * 2)) = some (.int .i64 ((rd_T28 l0_3 (ji20)).f0)) ∧ w'.cell? ⟨(ad151.add (((ji20)).toNat * 2)).block, (ad151.add (((ji20)).toNat * 2)).off + 1, none⟩ = some (.int .i64 ((rd_T28 l0_3 (ji20)).f1))) ∧ (w'.heap[gb144]? = some (.cells #[.int .i64 a0_0, .int .i64 a0_1, .int .i64 a0_2, .slice (some ad151) l0_3.length c0_3] 24 (0, 0))) ∧ (w'.heap[gb145]? = some (.cells #[.int .i64 0, .int .i64 0] 28 (0, 0))) ∧ (w'.heap[gb153]? = some (.cells #[.int .i64 ((rd_T28 l0_3 (ji11)).f0), .int .i64 ((rd_T28 l0_3 (ji11)).f1)] 28 (0, 0))) ∧ (w'.heap[gb154]? = some (.cells #[.int .i64 ((rd_T28 l0_3 (ji14)).f0), .int .i64 ((rd_T28 l0_3 (ji14)).f1)] 28 (0, 0))) ∧ (w'.heap[s_.1]? = some (.cells #[.int .i64 0, .int .i64 0] 28 (0, 0))) ∧ (w'.heap[s_.2]? = some (.cells #[.int .i64 0, .int .i64 0] 28 (0, 0))) ∧ (w.heap.size ≤ s_.1) ∧ (w.heap.size ≤ s_.1) ∧ (gb144 ≠ s_.1) ∧ (s_.1 ≠ gb144) ∧ (gb145 ≠ s_.1) ∧ (s_.1 ≠ gb145) ∧ (gb153 ≠ s_.1) ∧ (s_.1 ≠ gb153) ∧ (gb154 ≠ s_.1) ∧ (s_.1 ≠ gb154) ∧ (s_.2 ≠ s_.1) ∧ (s_.1 ≠ s_.2) ∧ (w.heap.size ≤ s_.2) ∧ (w.heap.size ≤ s_.2) ∧ (gb144 ≠ s_.2) ∧ (s_.2 ≠ gb144) ∧ (gb145 ≠ s_.2) ∧ (s_.2 ≠ gb145) ∧ (gb153 ≠ s_.2) ∧ (s_.2 ≠ gb153) ∧ (gb154 ≠ s_.2) ∧ (s_.2 ≠ gb154) ∧ (Below w.heap.size w w')) ?_ ?_
           rotate_left
           ·intro hCont
            refine two_ (i := 23) (j := 24) (Ni := some 16) (Nj := some 17) (bs 27 16777215) (bs 27 25165823) rfl rfl rfl rfl (two_of HT_.out (by kernel_rfl)) (by decide) (by decide) (fun K hK => ?_) (fun K hK => ?_)
            ·skip
             refine box_step ?hg (N := 16) ?hd (cs := #[.int .i64 0, .int .i64 0]) (t := 28) ?hr ?_; (case hd => rfl); (case hg => rfl); (case hr => first | (go_simp; done) | (go_simp; rfl))
             intro gb157 hg w47 hbox hb
             have GW157 := zg HB hg
             have GE157 := zg HB hg
             have NB144_157 := zn BK144 hg
             have NB157_144 := zn' BK144 hg
             have NB145_157 := zn BK145 hg
             have NB157_145 := zn' BK145 hg
             have NB153_157 := zn BK153 hg
             have NB157_153 := zn' BK153 hg
             have NB154_157 := zn BK154 hg
             have NB157_154 := zn' BK154 hg
             have n0_ := Aside0.mk (hbox)
             replace BK144 := zk BK144 hb
             replace BK145 := zk BK145 hb
             replace BK153 := zk BK153 hb
             replace BK154 := zk BK154 hb
             replace HB := zb HB hb
             have BK157 := n0_
             clear n0_
             clear hb hbox hg
             refine hK.out _ _ ⟨(blk_cell BK144.out 0).trans rfl, (blk_cell BK144.out 1).trans rfl, (blk_cell BK144.out 2).trans rfl, (blk_cell BK144.out 3).trans rfl, ((HB.out.cell (World.block_lt_of_cell? w _ hw155_0)).trans hw155_0), ((HB.out.cell (World.block_lt_of_cell? w _ hw155_1)).trans hw155_1), ((HB.out.cell (World.block_lt_of_cell? w _ hw156_0)).trans hw156_0), ((HB.out.cell (World.block_lt_of_cell? w _ hw156_1)).trans hw156_1)⟩ (fun hHeld => ?_)
             clear hK K
             refine norm_ (a' := ?_) ?_ ?_
             rotate_left
             ·show Act.put _ (some 16) _ = _
              simp only [Act.put, sA, sB, sC, i64_w, i32_w]
              rfl
             refine one_ (i := 24) (N := some 17) (bs 27 33554431) rfl rfl (one_of HT_.out (by kernel_rfl)) (by decide) (fun K hK => ?_)
             refine box_step ?hg (N := 17) ?hd (cs := #[.int .i64 0, .int .i64 0]) (t := 28) ?hr ?_; (case hd => rfl); (case hg => rfl); (case hr => first | (go_simp; done) | (go_simp; rfl))
             intro gb158 hg w48 hbox hb
             have GW158 := zg HB hg
             have GE158 := zg HB hg
             have NB144_158 := zn BK144 hg
             have NB158_144 := zn' BK144 hg
             have NB145_158 := zn BK145 hg
             have NB158_145 := zn' BK145 hg
             have NB153_158 := zn BK153 hg
             have NB158_153 := zn' BK153 hg
             have NB154_158 := zn BK154 hg
             have NB158_154 := zn' BK154 hg
             have NB157_158 := zn BK157 hg
             have NB158_157 := zn' BK157 hg
             have n0_ := Aside0.mk (hbox)
             replace BK144 := zk BK144 hb
             replace BK145 := zk BK145 hb
             replace BK153 := zk BK153 hb
             replace BK154 := zk BK154 hb
             replace BK157 := zk BK157 hb
             replace HB := zb HB hb
             have BK158 := n0_
             clear n0_
             clear hb hbox hg
             refine hK.out _ _ ⟨(blk_cell BK144.out 0).trans rfl, (blk_cell BK144.out 1).trans rfl, (blk_cell BK144.out 2).trans rfl, (blk_cell BK144.out 3).trans rfl, ((HB.out.cell (World.block_lt_of_cell? w _ hw155_0)).trans hw155_0), ((HB.out.cell (World.block_lt_of_cell? w _ hw155_1)).trans hw155_1), ((HB.out.cell (World.block_lt_of_cell? w _ hw156_0)).trans hw156_0), ((HB.out.cell (World.block_lt_of_cell? w _ hw156_1)).trans hw156_1)⟩ (fun hHeld => ?_)
             clear hK K
             refine norm_ (a' := ?_) ?_ ?_
             rotate_left
             ·show Act.put _ (some 17) _ = _
              simp only [Act.put, sA, sB, sC, i64_w, i32_w]
              rfl
             exact norm_ (by simp only [putAll, Act.put, sA, sB, sC]) (hCont (gb157, gb158) _ ⟨hHeld, (by exact zk0 BK144), (by exact zk0 BK145), (by exact zk0 BK153), (by exact zk0 BK154), (by exact zk0 BK157), (by exact zk0 BK158), GW157.out, GE157.out, NB144_157.out, NB157_144.out, NB145_157.out, NB157_145.out, NB153_157.out, NB157_153.out, NB154_157.out, NB157_154.out, NB158_157.out, NB157_158.out, GW158.out, GE158.out, NB144_158.out, NB158_144.out, NB145_158.out, NB158_145.out, NB153_158.out, NB158_153.out, NB154_158.out, NB158_154.out, (by exact zb0 HB)⟩)
            ·skip
             refine box_step ?hg (N := 17) ?hd (cs := #[.int .i64 0, .int .i64 0]) (t := 28) ?hr ?_; (case hd => rfl); (case hg => rfl); (case hr => first | (go_simp; done) | (go_simp; rfl))
             intro gb158 hg w47 hbox hb
             have GW158 := zg HB hg
             have GE158 := zg HB hg
             have NB144_158 := zn BK144 hg
             have NB158_144 := zn' BK144 hg
             have NB145_158 := zn BK145 hg
             have NB158_145 := zn' BK145 hg
             have NB153_158 := zn BK153 hg
             have NB158_153 := zn' BK153 hg
             have NB154_158 := zn BK154 hg
             have NB158_154 := zn' BK154 hg
             have n0_ := Aside0.mk (hbox)
             replace BK144 := zk BK144 hb
             replace BK145 := zk BK145 hb
             replace BK153 := zk BK153 hb
             replace BK154 := zk BK154 hb
             replace HB := zb HB hb
             have BK158 := n0_
             clear n0_
             clear hb hbox hg
             refine hK.out _ _ ⟨(blk_cell BK144.out 0).trans rfl, (blk_cell BK144.out 1).trans rfl, (blk_cell BK144.out 2).trans rfl, (blk_cell BK144.out 3).trans rfl, ((HB.out.cell (World.block_lt_of_cell? w _ hw155_0)).trans hw155_0), ((HB.out.cell (World.block_lt_of_cell? w _ hw155_1)).trans hw155_1), ((HB.out.cell (World.block_lt_of_cell? w _ hw156_0)).trans hw156_0), ((HB.out.cell (World.block_lt_of_cell? w _ hw156_1)).trans hw156_1)⟩ (fun hHeld => ?_)
             clear hK K
             refine norm_ (a' := ?_) ?_ ?_
             rotate_left
             ·show Act.put _ (some 17) _ = _
              simp only [Act.put, sA, sB, sC, i64_w, i32_w]
              rfl
             refine one_ (i := 23) (N := some 16) (bs 27 33554431) rfl rfl (one_of HT_.out (by kernel_rfl)) (by decide) (fun K hK => ?_)
             refine box_step ?hg (N := 16) ?hd (cs := #[.int .i64 0, .int .i64 0]) (t := 28) ?hr ?_; (case hd => rfl); (case hg => rfl); (case hr => first | (go_simp; done) | (go_simp; rfl))
             intro gb157 hg w48 hbox hb
             have GW157 := zg HB hg
             have GE157 := zg HB hg
             have NB144_157 := zn BK144 hg
             have NB157_144 := zn' BK144 hg
             have NB145_157 := zn BK145 hg
             have NB157_145 := zn' BK145 hg
             have NB153_157 := zn BK153 hg
             have NB157_153 := zn' BK153 hg
             have NB154_157 := zn BK154 hg
             have NB157_154 := zn' BK154 hg
             have NB158_157 := zn BK158 hg
             have NB157_158 := zn' BK158 hg
             have n0_ := Aside0.mk (hbox)
             replace BK144 := zk BK144 hb
             replace BK145 := zk BK145 hb
             replace BK153 := zk BK153 hb
             replace BK154 := zk BK154 hb
             replace BK158 := zk BK158 hb
             replace HB := zb HB hb
             have BK157 := n0_
             clear n0_
             clear hb hbox hg
             refine hK.out _ _ ⟨(blk_cell BK144.out 0).trans rfl, (blk_cell BK144.out 1).trans rfl, (blk_cell BK144.out 2).trans rfl, (blk_cell BK144.out 3).trans rfl, ((HB.out.cell (World.block_lt_of_cell? w _ hw155_0)).trans hw155_0), ((HB.out.cell (World.block_lt_of_cell? w _ hw155_1)).trans hw155_1), ((HB.out.cell (World.block_lt_of_cell? w _ hw156_0)).trans hw156_0), ((HB.out.cell (World.block_lt_of_cell? w _ hw156_1)).trans hw156_1)⟩ (fun hHeld => ?_)
             clear hK K
             refine norm_ (a' := ?_) ?_ ?_
             rotate_left
             ·show Act.put _ (some 16) _ = _
              simp only [Act.put, sA, sB, sC, i64_w, i32_w]
              rfl
             exact norm_ (by simp only [putAll, Act.put, sA, sB, sC]) (hCont (gb157, gb158) _ ⟨hHeld, (by exact zk0 BK144), (by exact zk0 BK145), (by exact zk0 BK153), (by exact zk0 BK154), (by exact zk0 BK157), (by exact zk0 BK158), GW157.out, GE157.out, NB144_157.out, NB157_144.out, NB145_157.out, NB157_145.out, NB153_157.out, NB157_153.out, NB154_157.out, NB157_154.out, NB158_157.out, NB157_158.out, GW158.out, GE158.out, NB144_158.out, NB158_144.out, NB145_158.out, NB158_145.out, NB153_158.out, NB158_153.out, NB154_158.out, NB158_154.out, (by exact zb0 HB)⟩)
           rintro ⟨gb157, gb158⟩ w49 ⟨hS_, h0_, h1_, h2_, h3_, h4_, h5_, h6_, h7_, h8_, h9_, h10_, h11_, h12_, h13_, h14_, h15_, h16_, h17_, h18_, h19_, h20_, h21_, h22_, h23_, h24_, h25_, h26_, h27_, h28_⟩
           have n0_ : Aside0 (w49.heap[gb144]? = some (.cells #[.int .i64 a0_0, .int .i64 a0_1, .int .i64 a0_2, .slice (some ad151) l0_3.length c0_3] 24 (0, 0))) := ⟨h0_⟩
           have n1_ : Aside0 (w49.heap[gb145]? = some (.cells #[.int .i64 0, .int .i64 0] 28 (0, 0))) := ⟨h1_⟩
           have n2_ : Aside0 (w49.heap[gb153]? = some (.cells #[.int .i64 ((rd_T28 l0_3 (ji11)).f0), .int .i64 ((rd_T28 l0_3 (ji11)).f1)] 28 (0, 0))) := ⟨h2_⟩
           have n3_ : Aside0 (w49.heap[gb154]? = some (.cells #[.int .i64 ((rd_T28 l0_3 (ji14)).f0), .int .i64 ((rd_T28 l0_3 (ji14)).f1)] 28 (0, 0))) := ⟨h3_⟩
           have n4_ : Aside0 (w49.heap[gb157]? = some (.cells #[.int .i64 0, .int .i64 0] 28 (0, 0))) := ⟨h4_⟩
           have n5_ : Aside0 (w49.heap[gb158]? = some (.cells #[.int .i64 0, .int .i64 0] 28 (0, 0))) := ⟨h5_⟩
           have n6_ : Aside0 (w.heap.size ≤ gb157) := ⟨h6_⟩
           have n7_ : Aside0 (w.heap.size ≤ gb157) := ⟨h7_⟩
           have n8_ : Aside0 (gb144 ≠ gb157) := ⟨h8_⟩
           have n9_ : Aside0 (gb157 ≠ gb144) := ⟨h9_⟩
           have n10_ : Aside0 (gb145 ≠ gb157) := ⟨h10_⟩
           have n11_ : Aside0 (gb157 ≠ gb145) := ⟨h11_⟩
           have n12_ : Aside0 (gb153 ≠ gb157) := ⟨h12_⟩
           have n13_ : Aside0 (gb157 ≠ gb153) := ⟨h13_⟩
           have n14_ : Aside0 (gb154 ≠ gb157) := ⟨h14_⟩
           have n15_ : Aside0 (gb157 ≠ gb154) := ⟨h15_⟩
           have n16_ : Aside0 (gb158 ≠ gb157) := ⟨h16_⟩
           have n17_ : Aside0 (gb157 ≠ gb158) := ⟨h17_⟩
           have n18_ : Aside0 (w.heap.size ≤ gb158) := ⟨h18_⟩
           have n19_ : Aside0 (w.heap.size ≤ gb158) := ⟨h19_⟩
           have n20_ : Aside0 (gb144 ≠ gb158) := ⟨h20_⟩
           have n21_ : Aside0 (gb158 ≠ gb144) := ⟨h21_⟩
           have n22_ : Aside0 (gb145 ≠ gb158) := ⟨h22_⟩
           have n23_ : Aside0 (gb158 ≠ gb145) := ⟨h23_⟩
           have n24_ : Aside0 (gb153 ≠ gb158) := ⟨h24_⟩
           have n25_ : Aside0 (gb158 ≠ gb153) := ⟨h25_⟩
           have n26_ : Aside0 (gb154 ≠ gb158) := ⟨h26_⟩
           have n27_ : Aside0 (gb158 ≠ gb154) := ⟨h27_⟩
           have n28_ : Aside0 (Below w.heap.size w w49) := ⟨h28_⟩
           clear BK144
           clear BK145
           clear BK153
           clear BK154
           clear HB
           clear h0_ h1_ h2_ h3_ h4_ h5_ h6_ h7_ h8_ h9_ h10_ h11_ h12_ h13_ h14_ h15_ h16_ h17_ h18_ h19_ h20_ h21_ h22_ h23_ h24_ h25_ h26_ h27_ h28_
           have BK144 := n0_
           have BK145 := n1_
           have BK153 := n2_
           have BK154 := n3_
           have BK157 := n4_
           have BK158 := n5_
           have GW157 := n6_
           have GE157 := n7_
           have NB144_157 := n8_
           have NB157_144 := n9_
           have NB145_157 := n10_
           have NB157_145 := n11_
           have NB153_157 := n12_
           have NB157_153 := n13_
           have NB154_157 := n14_
           have NB157_154 := n15_
           have NB158_157 := n16_
           have NB157_158 := n17_
           have GW158 := n18_
           have GE158 := n19_
           have NB144_158 := n20_
           have NB158_144 := n21_
           have NB145_158 := n22_
           have NB158_145 := n23_
           have NB153_158 := n24_
           have NB158_153 := n25_
           have NB154_158 := n26_
           have NB158_154 := n27_
           have HB := n28_
           clear n0_ n1_ n2_ n3_ n4_ n5_ n6_ n7_ n8_ n9_ n10_ n11_ n12_ n13_ n14_ n15_ n16_ n17_ n18_ n19_ n20_ n21_ n22_ n23_ n24_ n25_ n26_ n27_ n28_
           have hHeld : w49.cell? ⟨gb144, 0, none⟩ = some (.int .i64 a0_0) ∧ w49.cell? ⟨gb144, 1, none⟩ = some (.int .i64 a0_1) ∧ w49.cell? ⟨gb144, 2, none⟩ = some (.int .i64 a0_2) ∧ w49.cell? ⟨gb144, 3, none⟩ = some (.slice (some ad151) l0_3.length c0_3) ∧ w49.cell? (ad151.add (((ji17)).toNat * 2)) = some (.int .i64 ((rd_T28 l0_3 (ji17)).f0)) ∧ w49.cell? ⟨(ad151.add (((ji17)).toNat * 2)).block, (ad151.add (((ji17)).toNat * 2)).off + 1, none⟩ = some (.int .i64 ((rd_T28 l0_3 (ji17)).f1)) ∧ w49.cell? (ad151.add (((ji20)).toNat * 2)) = some (.int .i64 ((rd_T28 l0_3 (ji20)).f0)) ∧ w49.cell? ⟨(ad151.add (((ji20)).toNat * 2)).block, (ad151.add (((ji20)).toNat * 2)).off + 1, none⟩ = some (.int .i64 ((rd_T28 l0_3 (ji20)).f1)) := hS_
           refine norm_ (a' := ?_) ?_ ?_
           rotate_left
           ·simp only [putAll, Act.put, sA, sB, sC]
            rfl
           refine one_ (i := 25) (N := none) (bs 27 67108863) rfl rfl (one_of HT_.out (by kernel_rfl)) (by decide) (fun K hK => ?_)
           have hs50 : w49.cell? ⟨gb157, 0, none⟩ = some (.int .i64 0) := (blk_cell BK157.out 0).trans rfl
           have hfs50 := blk_frozen BK157.out 0
           have hns50_0 := NB144_157.out
           have hns50_1 := NB145_157.out
           have hns50_2 := NB153_157.out
           have hns50_3 := NB154_157.out
           have hns50_5 := NB158_157.out
           have hms50_0 := NB157_144.out
           have hms50_1 := NB157_145.out
           have hms50_2 := NB157_153.out
           have hms50_3 := NB157_154.out
           have hms50_5 := NB157_158.out
           have hs51 : w49.cell? ⟨gb157, 1, none⟩ = some (.int .i64 0) := (blk_cell BK157.out 1).trans rfl
           have hfs51 := blk_frozen BK157.out 1
           have hns51_0 := NB144_157.out
           have hns51_1 := NB145_157.out
           have hns51_2 := NB153_157.out
           have hns51_3 := NB154_157.out
           have hns51_5 := NB158_157.out
           have hms51_0 := NB157_144.out
           have hms51_1 := NB157_145.out
           have hms51_2 := NB157_153.out
           have hms51_3 := NB157_154.out
           have hms51_5 := NB157_158.out
           refine skip_ (w1 := ?_) (by rfl) rfl ?_ ?_
           rotate_left
           ·go_simp
            rfl
           refine hK.out _ _ ⟨((cell_far (p := ⟨gb157, _, none⟩) NB144_157.out _).trans (((cell_far (p := ⟨gb157, _, none⟩) NB144_157.out _).trans (hHeld.1)))), ((cell_far (p := ⟨gb157, _, none⟩) NB144_157.out _).trans (((cell_far (p := ⟨gb157, _, none⟩) NB144_157.out _).trans (hHeld.2.1)))), ((cell_far (p := ⟨gb157, _, none⟩) NB144_157.out _).trans (((cell_far (p := ⟨gb157, _, none⟩) NB144_157.out _).trans (hHeld.2.2.1)))), ((cell_far (p := ⟨gb157, _, none⟩) NB144_157.out _).trans (((cell_far (p := ⟨gb157, _, none⟩) NB144_157.out _).trans (hHeld.2.2.2.1)))), ((cell_far (p := ⟨gb157, _, none⟩) (by first | exact Nat.ne_of_lt (Nat.lt_of_lt_of_le (by have := World.block_lt_of_cell? _ _ hw155_0; first | rwa [add_block] at this | exact this) GW157.out) | (rw [add_block]; exact Nat.ne_of_lt (Nat.lt_of_lt_of_le (by have := World.block_lt_of_cell? _ _ hw155_0; first | rwa [add_block] at this | exact this) GW157.out)) | (show (Addr.add _ _).block ≠ _; rw [add_block]; exact Nat.ne_of_lt (Nat.lt_of_lt_of_le (by have := World.block_lt_of_cell? _ _ hw155_0; first | rwa [add_block] at this | exact this) GW157.out)) | (dsimp only; exact Nat.ne_of_lt (Nat.lt_of_lt_of_le (by have := World.block_lt_of_cell? _ _ hw155_0; first | rwa [add_block] at this | exact this) GW157.out))) _).trans (((cell_far (p := ⟨gb157, _, none⟩) (by first | exact Nat.ne_of_lt (Nat.lt_of_lt_of_le (by have := World.block_lt_of_cell? _ _ hw155_0; first | rwa [add_block] at this | exact this) GW157.out) | (rw [add_block]; exact Nat.ne_of_lt (Nat.lt_of_lt_of_le (by have := World.block_lt_of_cell? _ _ hw155_0; first | rwa [add_block] at this | exact this) GW157.out)) | (show (Addr.add _ _).block ≠ _; rw [add_block]; exact Nat.ne_of_lt (Nat.lt_of_lt_of_le (by have := World.block_lt_of_cell? _ _ hw155_0; first | rwa [add_block] at this | exact this) GW157.out)) | (dsimp only; exact Nat.ne_of_lt (Nat.lt_of_lt_of_le (by have := World.block_lt_of_cell? _ _ hw155_0; first | rwa [add_block] at this | exact this) GW157.out))) _).trans (hHeld.2.2.2.2.1)))), ((cell_far (p := ⟨gb157, _, none⟩) (by first | exact Nat.ne_of_lt (Nat.lt_of_lt_of_le (by have := World.block_lt_of_cell? _ _ hw155_1; first | rwa [add_block] at this | exact this) GW157.out) | (rw [add_block]; exact Nat.ne_of_lt (Nat.lt_of_lt_of_le (by have := World.block_lt_of_cell? _ _ hw155_1; first | rwa [add_block] at this | exact this) GW157.out)) | (show (Addr.add _ _).block ≠ _; rw [add_block]; exact Nat.ne_of_lt (Nat.lt_of_lt_of_le (by have := World.block_lt_of_cell? _ _ hw155_1; first | rwa [add_block] at this | exact this) GW157.out)) | (dsimp only; exact Nat.ne_of_lt (Nat.lt_of_lt_of_le (by have := World.block_lt_of_cell? _ _ hw155_1; first | rwa [add_block] at this | exact this) GW157.out))) _).trans (((cell_far (p := ⟨gb157, _, none⟩) (by first | exact Nat.ne_of_lt (Nat.lt_of_lt_of_le (by have := World.block_lt_of_cell? _ _ hw155_1; first | rwa [add_block] at this | exact this) GW157.out) | (rw [add_block]; exact Nat.ne_of_lt (Nat.lt_of_lt_of_le (by have := World.block_lt_of_cell? _ _ hw155_1; first | rwa [add_block] at this | exact this) GW157.out)) | (show (Addr.add _ _).block ≠ _; rw [add_block]; exact Nat.ne_of_lt (Nat.lt_of_lt_of_le (by have := World.block_lt_of_cell? _ _ hw155_1; first | rwa [add_block] at this | exact this) GW157.out)) | (dsimp only; exact Nat.ne_of_lt (Nat.lt_of_lt_of_le (by have := World.block_lt_of_cell? _ _ hw155_1; first | rwa [add_block] at this | exact this) GW157.out))) _).trans (hHeld.2.2.2.2.2.1)))), ((cell_far (p := ⟨gb157, _, none⟩) (by first | exact Nat.ne_of_lt (Nat.lt_of_lt_of_le (by have := World.block_lt_of_cell? _ _ hw156_0; first | rwa [add_block] at this | exact this) GW157.out) | (rw [add_block]; exact Nat.ne_of_lt (Nat.lt_of_lt_of_le (by have := World.block_lt_of_cell? _ _ hw156_0; first | rwa [add_block] at this | exact this) GW157.out)) | (show (Addr.add _ _).block ≠ _; rw [add_block]; exact Nat.ne_of_lt (Nat.lt_of_lt_of_le (by have := World.block_lt_of_cell? _ _ hw156_0; first | rwa [add_block] at this | exact this) GW157.out)) | (dsimp only; exact Nat.ne_of_lt (Nat.lt_of_lt_of_le (by have := World.block_lt_of_cell? _ _ hw156_0; first | rwa [add_block] at this | exact this) GW157.out))) _).trans (((cell_far (p := ⟨gb157, _, none⟩) (by first | exact Nat.ne_of_lt (Nat.lt_of_lt_of_le (by have := World.block_lt_of_cell? _ _ hw156_0; first | rwa [add_block] at this | exact this) GW157.out) | (rw [add_block]; exact Nat.ne_of_lt (Nat.lt_of_lt_of_le (by have := World.block_lt_of_cell? _ _ hw156_0; first | rwa [add_block] at this | exact this) GW157.out)) | (show (Addr.add _ _).block ≠ _; rw [add_block]; exact Nat.ne_of_lt (Nat.lt_of_lt_of_le (by have := World.block_lt_of_cell? _ _ hw156_0; first | rwa [add_block] at this | exact this) GW157.out)) | (dsimp only; exact Nat.ne_of_lt (Nat.lt_of_lt_of_le (by have := World.block_lt_of_cell? _ _ hw156_0; first | rwa [add_block] at this | exact this) GW157.out))) _).trans (hHeld.2.2.2.2.2.2.1)))), ((cell_far (p := ⟨gb157, _, none⟩) (by first | exact Nat.ne_of_lt (Nat.lt_of_lt_of_le (by have := World.block_lt_of_cell? _ _ hw156_1; first | rwa [add_block] at this | exact this) GW157.out) | (rw [add_block]; exact Nat.ne_of_lt (Nat.lt_of_lt_of_le (by have := World.block_lt_of_cell? _ _ hw156_1; first | rwa [add_block] at this | exact this) GW157.out)) | (show (Addr.add _ _).block ≠ _; rw [add_block]; exact Nat.ne_of_lt (Nat.lt_of_lt_of_le (by have := World.block_lt_of_cell? _ _ hw156_1; first | rwa [add_block] at this | exact this) GW157.out)) | (dsimp only; exact Nat.ne_of_lt (Nat.lt_of_lt_of_le (by have := World.block_lt_of_cell? _ _ hw156_1; first | rwa [add_block] at this | exact this) GW157.out))) _).trans (((cell_far (p := ⟨gb157, _, none⟩) (by first | exact Nat.ne_of_lt (Nat.lt_of_lt_of_le (by have := World.block_lt_of_cell? _ _ hw156_1; first | rwa [add_block] at this | exact this) GW157.out) | (rw [add_block]; exact Nat.ne_of_lt (Nat.lt_of_lt_of_le (by have := World.block_lt_of_cell? _ _ hw156_1; first | rwa [add_block] at this | exact this) GW157.out)) | (show (Addr.add _ _).block ≠ _; rw [add_block]; exact Nat.ne_of_lt (Nat.lt_of_lt_of_le (by have := World.block_lt_of_cell? _ _ hw156_1; first | rwa [add_block] at this | exact this) GW157.out)) | (dsimp only; exact Nat.ne_of_lt (Nat.lt_of_lt_of_le (by have := World.block_lt_of_cell? _ _ hw156_1; first | rwa [add_block] at this | exact this) GW157.out))) _).trans (hHeld.2.2.2.2.2.2.2))))⟩ (fun hHeld => ?_)
           clear hK K
           refine one_ (i := 26) (N := none) (bs 27 134217727) rfl rfl (one_of HT_.out (by kernel_rfl)) (by decide) (fun K hK => ?_)
           have hs52 : w49.cell? ⟨gb158, 0, none⟩ = some (.int .i64 0) := (blk_cell BK158.out 0).trans rfl
           have hfs52 := blk_frozen BK158.out 0
           have hns52_0 := NB144_158.out
           have hns52_1 := NB145_158.out
           have hns52_2 := NB153_158.out
           have hns52_3 := NB154_158.out
           have hns52_4 := NB157_158.out
           have hms52_0 := NB158_144.out
           have hms52_1 := NB158_145.out
           have hms52_2 := NB158_153.out
           have hms52_3 := NB158_154.out
           have hms52_4 := NB158_157.out
           have hs53 : w49.cell? ⟨gb158, 1, none⟩ = some (.int .i64 0) := (blk_cell BK158.out 1).trans rfl
           have hfs53 := blk_frozen BK158.out 1
           have hns53_0 := NB144_158.out
           have hns53_1 := NB145_158.out
           have hns53_2 := NB153_158.out
           have hns53_3 := NB154_158.out
           have hns53_4 := NB157_158.out
           have hms53_0 := NB158_144.out
           have hms53_1 := NB158_145.out
           have hms53_2 := NB158_153.out
           have hms53_3 := NB158_154.out
           have hms53_4 := NB158_157.out
           refine skip_ (w1 := ?_) (by rfl) rfl ?_ ?_
           rotate_left
           ·go_simp
            rfl
           refine hK.out _ _ ⟨((cell_far (p := ⟨gb158, _, none⟩) NB144_158.out _).trans (((cell_far (p := ⟨gb158, _, none⟩) NB144_158.out _).trans (hHeld.1)))), ((cell_far (p := ⟨gb158, _, none⟩) NB144_158.out _).trans (((cell_far (p := ⟨gb158, _, none⟩) NB144_158.out _).trans (hHeld.2.1)))), ((cell_far (p := ⟨gb158, _, none⟩) NB144_158.out _).trans (((cell_far (p := ⟨gb158, _, none⟩) NB144_158.out _).trans (hHeld.2.2.1)))), ((cell_far (p := ⟨gb158, _, none⟩) NB144_158.out _).trans (((cell_far (p := ⟨gb158, _, none⟩) NB144_158.out _).trans (hHeld.2.2.2.1)))), ((cell_far (p := ⟨gb158, _, none⟩) (by first | exact Nat.ne_of_lt (Nat.lt_of_lt_of_le (by have := World.block_lt_of_cell? _ _ hw155_0; first | rwa [add_block] at this | exact this) GW158.out) | (rw [add_block]; exact Nat.ne_of_lt (Nat.lt_of_lt_of_le (by have := World.block_lt_of_cell? _ _ hw155_0; first | rwa [add_block] at this | exact this) GW158.out)) | (show (Addr.add _ _).block ≠ _; rw [add_block]; exact Nat.ne_of_lt (Nat.lt_of_lt_of_le (by have := World.block_lt_of_cell? _ _ hw155_0; first | rwa [add_block] at this | exact this) GW158.out)) | (dsimp only; exact Nat.ne_of_lt (Nat.lt_of_lt_of_le (by have := World.block_lt_of_cell? _ _ hw155_0; first | rwa [add_block] at this | exact this) GW158.out))) _).trans (((cell_far (p := ⟨gb158, _, none⟩) (by first | exact Nat.ne_of_lt (Nat.lt_of_lt_of_le (by have := World.block_lt_of_cell? _ _ hw155_0; first | rwa [add_block] at this | exact this) GW158.out) | (rw [add_block]; exact Nat.ne_of_lt (Nat.lt_of_lt_of_le (by have := World.block_lt_of_cell? _ _ hw155_0; first | rwa [add_block] at this | exact this) GW158.out)) | (show (Addr.add _ _).block ≠ _; rw [add_block]; exact Nat.ne_of_lt (Nat.lt_of_lt_of_le (by have := World.block_lt_of_cell? _ _ hw155_0; first | rwa [add_block] at this | exact this) GW158.out)) | (dsimp only; exact Nat.ne_of_lt (Nat.lt_of_lt_of_le (by have := World.block_lt_of_cell? _ _ hw155_0; first | rwa [add_block] at this | exact this) GW158.out))) _).trans (hHeld.2.2.2.2.1)))), ((cell_far (p := ⟨gb158, _, none⟩) (by first | exact Nat.ne_of_lt (Nat.lt_of_lt_of_le (by have := World.block_lt_of_cell? _ _ hw155_1; first | rwa [add_block] at this | exact this) GW158.out) | (rw [add_block]; exact Nat.ne_of_lt (Nat.lt_of_lt_of_le (by have := World.block_lt_of_cell? _ _ hw155_1; first | rwa [add_block] at this | exact this) GW158.out)) | (show (Addr.add _ _).block ≠ _; rw [add_block]; exact Nat.ne_of_lt (Nat.lt_of_lt_of_le (by have := World.block_lt_of_cell? _ _ hw155_1; first | rwa [add_block] at this | exact this) GW158.out)) | (dsimp only; exact Nat.ne_of_lt (Nat.lt_of_lt_of_le (by have := World.block_lt_of_cell? _ _ hw155_1; first | rwa [add_block] at this | exact this) GW158.out))) _).trans (((cell_far (p := ⟨gb158, _, none⟩) (by first | exact Nat.ne_of_lt (Nat.lt_of_lt_of_le (by have := World.block_lt_of_cell? _ _ hw155_1; first | rwa [add_block] at this | exact this) GW158.out) | (rw [add_block]; exact Nat.ne_of_lt (Nat.lt_of_lt_of_le (by have := World.block_lt_of_cell? _ _ hw155_1; first | rwa [add_block] at this | exact this) GW158.out)) | (show (Addr.add _ _).block ≠ _; rw [add_block]; exact Nat.ne_of_lt (Nat.lt_of_lt_of_le (by have := World.block_lt_of_cell? _ _ hw155_1; first | rwa [add_block] at this | exact this) GW158.out)) | (dsimp only; exact Nat.ne_of_lt (Nat.lt_of_lt_of_le (by have := World.block_lt_of_cell? _ _ hw155_1; first | rwa [add_block] at this | exact this) GW158.out))) _).trans (hHeld.2.2.2.2.2.1)))), ((cell_far (p := ⟨gb158, _, none⟩) (by first | exact Nat.ne_of_lt (Nat.lt_of_lt_of_le (by have := World.block_lt_of_cell? _ _ hw156_0; first | rwa [add_block] at this | exact this) GW158.out) | (rw [add_block]; exact Nat.ne_of_lt (Nat.lt_of_lt_of_le (by have := World.block_lt_of_cell? _ _ hw156_0; first | rwa [add_block] at this | exact this) GW158.out)) | (show (Addr.add _ _).block ≠ _; rw [add_block]; exact Nat.ne_of_lt (Nat.lt_of_lt_of_le (by have := World.block_lt_of_cell? _ _ hw156_0; first | rwa [add_block] at this | exact this) GW158.out)) | (dsimp only; exact Nat.ne_of_lt (Nat.lt_of_lt_of_le (by have := World.block_lt_of_cell? _ _ hw156_0; first | rwa [add_block] at this | exact this) GW158.out))) _).trans (((cell_far (p := ⟨gb158, _, none⟩) (by first | exact Nat.ne_of_lt (Nat.lt_of_lt_of_le (by have := World.block_lt_of_cell? _ _ hw156_0; first | rwa [add_block] at this | exact this) GW158.out) | (rw [add_block]; exact Nat.ne_of_lt (Nat.lt_of_lt_of_le (by have := World.block_lt_of_cell? _ _ hw156_0; first | rwa [add_block] at this | exact this) GW158.out)) | (show (Addr.add _ _).block ≠ _; rw [add_block]; exact Nat.ne_of_lt (Nat.lt_of_lt_of_le (by have := World.block_lt_of_cell? _ _ hw156_0; first | rwa [add_block] at this | exact this) GW158.out)) | (dsimp only; exact Nat.ne_of_lt (Nat.lt_of_lt_of_le (by have := World.block_lt_of_cell? _ _ hw156_0; first | rwa [add_block] at this | exact this) GW158.out))) _).trans (hHeld.2.2.2.2.2.2.1)))), ((cell_far (p := ⟨gb158, _, none⟩) (by first | exact Nat.ne_of_lt (Nat.lt_of_lt_of_le (by have := World.block_lt_of_cell? _ _ hw156_1; first | rwa [add_block] at this | exact this) GW158.out) | (rw [add_block]; exact Nat.ne_of_lt (Nat.lt_of_lt_of_le (by have := World.block_lt_of_cell? _ _ hw156_1; first | rwa [add_block] at this | exact this) GW158.out)) | (show (Addr.add _ _).block ≠ _; rw [add_block]; exact Nat.ne_of_lt (Nat.lt_of_lt_of_le (by have := World.block_lt_of_cell? _ _ hw156_1; first | rwa [add_block] at this | exact this) GW158.out)) | (dsimp only; exact Nat.ne_of_lt (Nat.lt_of_lt_of_le (by have := World.block_lt_of_cell? _ _ hw156_1; first | rwa [add_block] at this | exact this) GW158.out))) _).trans (((cell_far (p := ⟨gb158, _, none⟩) (by first | exact Nat.ne_of_lt (Nat.lt_of_lt_of_le (by have := World.block_lt_of_cell? _ _ hw156_1; first | rwa [add_block] at this | exact this) GW158.out) | (rw [add_block]; exact Nat.ne_of_lt (Nat.lt_of_lt_of_le (by have := World.block_lt_of_cell? _ _ hw156_1; first | rwa [add_block] at this | exact this) GW158.out)) | (show (Addr.add _ _).block ≠ _; rw [add_block]; exact Nat.ne_of_lt (Nat.lt_of_lt_of_le (by have := World.block_lt_of_cell? _ _ hw156_1; first | rwa [add_block] at this | exact this) GW158.out)) | (dsimp only; exact Nat.ne_of_lt (Nat.lt_of_lt_of_le (by have := World.block_lt_of_cell? _ _ hw156_1; first | rwa [add_block] at this | exact this) GW158.out))) _).trans (hHeld.2.2.2.2.2.2.2))))⟩ (fun hHeld => ?_)
           clear hK K
           refine done_ (done_of HT_.out (by kernel_rfl)) ?_
           try go_wp2
           have n0_ : Aside0 (((((w49.setCell ⟨gb157, 0, none⟩ (.int .i64 ((rd_T28 l0_3 (ji17)).f0))).setCell ⟨gb157, 1, none⟩ (.int .i64 ((rd_T28 l0_3 (ji17)).f1))).setCell ⟨gb158, 0, none⟩ (.int .i64 ((rd_T28 l0_3 (ji20)).f0))).setCell ⟨gb158, 1, none⟩ (.int .i64 ((rd_T28 l0_3 (ji20)).f1))).heap[gb144]? = some (.cells #[.int .i64 a0_0, .int .i64 a0_1, .int .i64 a0_2, .slice (some ad151) l0_3.length c0_3] 24 (0, 0))) := ⟨by (with_reducible repeat (first | refine blk_drewN ?_ _ | refine blk_drew ?_ | refine blk_alloc ?_ _)); refine blk_far ?_ NB144_158.out _; (with_reducible repeat (first | refine blk_drewN ?_ _ | refine blk_drew ?_ | refine blk_alloc ?_ _)); refine blk_far ?_ NB144_158.out _; (with_reducible repeat (first | refine blk_drewN ?_ _ | refine blk_drew ?_ | refine blk_alloc ?_ _)); refine blk_far ?_ NB144_157.out _; (with_reducible repeat (first | refine blk_drewN ?_ _ | refine blk_drew ?_ | refine blk_alloc ?_ _)); refine blk_far ?_ NB144_157.out _; (with_reducible repeat (first | refine blk_drewN ?_ _ | refine blk_drew ?_ | refine blk_alloc ?_ _)); exact BK144.out⟩
           have n1_ : Aside0 (((((w49.setCell ⟨gb157, 0, none⟩ (.int .i64 ((rd_T28 l0_3 (ji17)).f0))).setCell ⟨gb157, 1, none⟩ (.int .i64 ((rd_T28 l0_3 (ji17)).f1))).setCell ⟨gb158, 0, none⟩ (.int .i64 ((rd_T28 l0_3 (ji20)).f0))).setCell ⟨gb158, 1, none⟩ (.int .i64 ((rd_T28 l0_3 (ji20)).f1))).heap[gb145]? = some (.cells #[.int .i64 0, .int .i64 0] 28 (0, 0))) := ⟨by (with_reducible repeat (first | refine blk_drewN ?_ _ | refine blk_drew ?_ | refine blk_alloc ?_ _)); refine blk_far ?_ NB145_158.out _; (with_reducible repeat (first | refine blk_drewN ?_ _ | refine blk_drew ?_ | refine blk_alloc ?_ _)); refine blk_far ?_ NB145_158.out _; (with_reducible repeat (first | refine blk_drewN ?_ _ | refine blk_drew ?_ | refine blk_alloc ?_ _)); refine blk_far ?_ NB145_157.out _; (with_reducible repeat (first | refine blk_drewN ?_ _ | refine blk_drew ?_ | refine blk_alloc ?_ _)); refine blk_far ?_ NB145_157.out _; (with_reducible repeat (first | refine blk_drewN ?_ _ | refine blk_drew ?_ | refine blk_alloc ?_ _)); exact BK145.out⟩
           have n2_ : Aside0 (((((w49.setCell ⟨gb157, 0, none⟩ (.int .i64 ((rd_T28 l0_3 (ji17)).f0))).setCell ⟨gb157, 1, none⟩ (.int .i64 ((rd_T28 l0_3 (ji17)).f1))).setCell ⟨gb158, 0, none⟩ (.int .i64 ((rd_T28 l0_3 (ji20)).f0))).setCell ⟨gb158, 1, none⟩ (.int .i64 ((rd_T28 l0_3 (ji20)).f1))).heap[gb153]? = some (.cells #[.int .i64 ((rd_T28 l0_3 (ji11)).f0), .int .i64 ((rd_T28 l0_3 (ji11)).f1)] 28 (0, 0))) := ⟨by (with_reducible repeat (first | refine blk_drewN ?_ _ | refine blk_drew ?_ | refine blk_alloc ?_ _)); refine blk_far ?_ NB153_158.out _; (with_reducible repeat (first | refine blk_drewN ?_ _ | refine blk_drew ?_ | refine blk_alloc ?_ _)); refine blk_far ?_ NB153_158.out _; (with_reducible repeat (first | refine blk_drewN ?_ _ | refine blk_drew ?_ | refine blk_alloc ?_ _)); refine blk_far ?_ NB153_157.out _; (with_reducible repeat (first | refine blk_drewN ?_ _ | refine blk_drew ?_ | refine blk_alloc ?_ _)); refine blk_far ?_ NB153_157.out _; (with_reducible repeat (first | refine blk_drewN ?_ _ | refine blk_drew ?_ | refine blk_alloc ?_ _)); exact BK153.out⟩
           have n3_ : Aside0 (((((w49.setCell ⟨gb157, 0, none⟩ (.int .i64 ((rd_T28 l0_3 (ji17)).f0))).setCell ⟨gb157, 1, none⟩ (.int .i64 ((rd_T28 l0_3 (ji17)).f1))).setCell ⟨gb158, 0, none⟩ (.int .i64 ((rd_T28 l0_3 (ji20)).f0))).setCell ⟨gb158, 1, none⟩ (.int .i64 ((rd_T28 l0_3 (ji20)).f1))).heap[gb154]? = some (.cells #[.int .i64 ((rd_T28 l0_3 (ji14)).f0), .int .i64 ((rd_T28 l0_3 (ji14)).f1)] 28 (0, 0))) := ⟨by (with_reducible repeat (first | refine blk_drewN ?_ _ | refine blk_drew ?_ | refine blk_alloc ?_ _)); refine blk_far ?_ NB154_158.out _; (with_reducible repeat (first | refine blk_drewN ?_ _ | refine blk_drew ?_ | refine blk_alloc ?_ _)); refine blk_far ?_ NB154_158.out _; (with_reducible repeat (first | refine blk_drewN ?_ _ | refine blk_drew ?_ | refine blk_alloc ?_ _)); refine blk_far ?_ NB154_157.out _; (with_reducible repeat (first | refine blk_drewN ?_ _ | refine blk_drew ?_ | refine blk_alloc ?_ _)); refine blk_far ?_ NB154_157.out _; (with_reducible repeat (first | refine blk_drewN ?_ _ | refine blk_drew ?_ | refine blk_alloc ?_ _)); exact BK154.out⟩
           have n4_ : Aside0 (((((w49.setCell ⟨gb157, 0, none⟩ (.int .i64 ((rd_T28 l0_3 (ji17)).f0))).setCell ⟨gb157, 1, none⟩ (.int .i64 ((rd_T28 l0_3 (ji17)).f1))).setCell ⟨gb158, 0, none⟩ (.int .i64 ((rd_T28 l0_3 (ji20)).f0))).setCell ⟨gb158, 1, none⟩ (.int .i64 ((rd_T28 l0_3 (ji20)).f1))).heap[gb157]? = some (.cells #[.int .i64 ((rd_T28 l0_3 (ji17)).f0), .int .i64 ((rd_T28 l0_3 (ji17)).f1)] 28 (0, 0))) := ⟨by (with_reducible repeat (first | refine blk_drewN ?_ _ | refine blk_drew ?_ | refine blk_alloc ?_ _)); refine blk_far ?_ NB157_158.out _; (with_reducible repeat (first | refine blk_drewN ?_ _ | refine blk_drew ?_ | refine blk_alloc ?_ _)); refine blk_far ?_ NB157_158.out _; (with_reducible repeat (first | refine blk_drewN ?_ _ | refine blk_drew ?_ | refine blk_alloc ?_ _)); refine blk_put (cs := #[.int .i64 ((rd_T28 l0_3 (ji17)).f0), .int .i64 0]) ?_ 1 _ rfl; (with_reducible repeat (first | refine blk_drewN ?_ _ | refine blk_drew ?_ | refine blk_alloc ?_ _)); refine blk_put (cs := #[.int .i64 0, .int .i64 0]) ?_ 0 _ rfl; (with_reducible repeat (first | refine blk_drewN ?_ _ | refine blk_drew ?_ | refine blk_alloc ?_ _)); exact BK157.out⟩
           have n5_ : Aside0 (((((w49.setCell ⟨gb157, 0, none⟩ (.int .i64 ((rd_T28 l0_3 (ji17)).f0))).setCell ⟨gb157, 1, none⟩ (.int .i64 ((rd_T28 l0_3 (ji17)).f1))).setCell ⟨gb158, 0, none⟩ (.int .i64 ((rd_T28 l0_3 (ji20)).f0))).setCell ⟨gb158, 1, none⟩ (.int .i64 ((rd_T28 l0_3 (ji20)).f1))).heap[gb158]? = some (.cells #[.int .i64 ((rd_T28 l0_3 (ji20)).f0), .int .i64 ((rd_T28 l0_3 (ji20)).f1)] 28 (0, 0))) := ⟨by (with_reducible repeat (first | refine blk_drewN ?_ _ | refine blk_drew ?_ | refine blk_alloc ?_ _)); refine blk_put (cs := #[.int .i64 ((rd_T28 l0_3 (ji20)).f0), .int .i64 0]) ?_ 1 _ rfl; (with_reducible repeat (first | refine blk_drewN ?_ _ | refine blk_drew ?_ | refine blk_alloc ?_ _)); refine blk_put (cs := #[.int .i64 0, .int .i64 0]) ?_ 0 _ rfl; (with_reducible repeat (first | refine blk_drewN ?_ _ | refine blk_drew ?_ | refine blk_alloc ?_ _)); refine blk_far ?_ NB158_157.out _; (with_reducible repeat (first | refine blk_drewN ?_ _ | refine blk_drew ?_ | refine blk_alloc ?_ _)); refine blk_far ?_ NB158_157.out _; (with_reducible repeat (first | refine blk_drewN ?_ _ | refine blk_drew ?_ | refine blk_alloc ?_ _)); exact BK158.out⟩
           have n6_ : Aside0 (Below w.heap.size w ((((w49.setCell ⟨gb157, 0, none⟩ (.int .i64 ((rd_T28 l0_3 (ji17)).f0))).setCell ⟨gb157, 1, none⟩ (.int .i64 ((rd_T28 l0_3 (ji17)).f1))).setCell ⟨gb158, 0, none⟩ (.int .i64 ((rd_T28 l0_3 (ji20)).f0))).setCell ⟨gb158, 1, none⟩ (.int .i64 ((rd_T28 l0_3 (ji20)).f1)))) := ⟨by repeat (first | (with_reducible first | exact HB.out | apply below_alloc | apply pw_below_drewN | apply below_drew1 | refine below_set ?_ GE157.out | refine below_set ?_ GE158.out) | exact HB.out)⟩
           (try clear BK144)
           (try clear BK145)
           (try clear BK153)
           (try clear BK154)
           (try clear BK157)
           (try clear BK158)
           (try clear HB)
           generalize ((((w49.setCell ⟨gb157, 0, none⟩ (.int .i64 ((rd_T28 l0_3 (ji17)).f0))).setCell ⟨gb157, 1, none⟩ (.int .i64 ((rd_T28 l0_3 (ji17)).f1))).setCell ⟨gb158, 0, none⟩ (.int .i64 ((rd_T28 l0_3 (ji20)).f0))).setCell ⟨gb158, 1, none⟩ (.int .i64 ((rd_T28 l0_3 (ji20)).f1))) = w54 at n0_ n1_ n2_ n3_ n4_ n5_ n6_ ⊢
           have BK144 := n0_
           have BK145 := n1_
           have BK153 := n2_
           have BK154 := n3_
           have BK157 := n4_
           have BK158 := n5_
           have HB := n6_
           clear n0_ n1_ n2_ n3_ n4_ n5_ n6_
           replace BK144 := zkd BK144
           replace BK145 := zkd BK145
           replace BK153 := zkd BK153
           replace BK154 := zkd BK154
           replace BK157 := zkd BK157
           replace BK158 := zkd BK158
           replace HB := zbd HB
           refine start_ (n := 48) (S := fun w' => w'.cell? ⟨gb153, 0, none⟩ = some (.int .i64 ((rd_T28 l0_3 (ji11)).f0)) ∧ w'.cell? ⟨gb153, 1, none⟩ = some (.int .i64 ((rd_T28 l0_3 (ji11)).f1)) ∧ w'.cell? ⟨gb154, 0, none⟩ = some (.int .i64 ((rd_T28 l0_3 (ji14)).f0)) ∧ w'.cell? ⟨gb154, 1, none⟩ = some (.int .i64 ((rd_T28 l0_3 (ji14)).f1)) ∧ w'.cell? ⟨gb157, 0, none⟩ = some (.int .i64 ((rd_T28 l0_3 (ji17)).f0)) ∧ w'.cell? ⟨gb157, 1, none⟩ = some (.int .i64 ((rd_T28 l0_3 (ji17)).f1)) ∧ w'.cell? ⟨gb158, 0, none⟩ = some (.int .i64 ((rd_T28 l0_3 (ji20)).f0)) ∧ w'.cell? ⟨gb158, 1, none⟩ = some (.int .i64 ((rd_T28 l0_3 (ji20)).f1))) (ds := []) (bs 48 0) (by kernel_rfl) rfl rfl ⟨(blk_cell BK153.out 0).trans rfl, (blk_cell BK153.out 1).trans rfl, (blk_cell BK154.out 0).trans rfl, (blk_cell BK154.out 1).trans rfl, (blk_cell BK157.out 0).trans rfl, (blk_cell BK157.out 1).trans rfl, (blk_cell BK158.out 0).trans rfl, (blk_cell BK158.out 1).trans rfl⟩ (fun hHeld => ?_); refine with_tabW imageeditorref15_At.tab10 imageeditorref15_At.bits10 (fun HT_ HW_ => ?_)
           generalize w54.drew = w55 at BK144 BK145 BK153 BK154 BK157 BK158 HB hHeld ⊢
           refine pure_ (i := 0) (N := some 130) (v := ?_) (a' := ?_) (bs 48 1) rfl rfl (any_of HT_.out (by kernel_rfl)) (fun _ _ _ h => h) (Or.inl ⟨by rfl, ?_⟩) ?_ ?_
           rotate_left
           ·intro w'
            go_simp
            with_reducible rfl
           rotate_left
           ·simp only [Act.put, sA, sB, sC, i64_w, i32_w]
            rfl
           refine pure_ (i := 1) (N := some 131) (v := ?_) (a' := ?_) (bs 48 3) rfl rfl (any_of HT_.out (by kernel_rfl)) (fun _ _ _ h => h) (Or.inl ⟨by rfl, ?_⟩) ?_ ?_
           rotate_left
           ·intro w'
            go_simp
            with_reducible rfl
           rotate_left
           ·simp only [Act.put, sA, sB, sC, i64_w, i32_w]
            rfl
           refine pure_ (i := 4) (N := some 134) (v := ?_) (a' := ?_) (bs 48 19) rfl rfl (any_of HT_.out (by kernel_rfl)) (fun _ _ _ h => h) (Or.inl ⟨by rfl, ?_⟩) ?_ ?_
           rotate_left
           ·intro w'
            go_simp
            with_reducible rfl
           rotate_left
           ·simp only [Act.put, sA, sB, sC, i64_w, i32_w]
            rfl
           refine pure_ (i := 5) (N := some 135) (v := ?_) (a' := ?_) (bs 48 51) rfl rfl (any_of HT_.out (by kernel_rfl)) (fun _ _ _ h => h) (Or.inl ⟨by rfl, ?_⟩) ?_ ?_
           rotate_left
           ·intro w'
            go_simp
            with_reducible rfl
           rotate_left
           ·simp only [Act.put, sA, sB, sC, i64_w, i32_w]
            rfl
           refine pure_ (i := 9) (N := some 139) (v := ?_) (a' := ?_) (bs 48 563) rfl rfl (any_of HT_.out (by kernel_rfl)) (fun _ _ _ h => h) (Or.inl ⟨by rfl, ?_⟩) ?_ ?_
           rotate_left
           ·intro w'
            go_simp
            with_reducible rfl
           rotate_left
           ·simp only [Act.put, sA, sB, sC, i64_w, i32_w]
            rfl
           refine pure_ (i := 10) (N := some 140) (v := ?_) (a' := ?_) (bs 48 1587) rfl rfl (any_of HT_.out (by kernel_rfl)) (fun _ _ _ h => h) (Or.inl ⟨by rfl, ?_⟩) ?_ ?_
           rotate_left
           ·intro w'
            go_simp
            with_reducible rfl
           rotate_left
           ·simp only [Act.put, sA, sB, sC, i64_w, i32_w]
            rfl
           refine pure_ (i := 14) (N := some 144) (v := ?_) (a' := ?_) (bs 48 17971) rfl rfl (any_of HT_.out (by kernel_rfl)) (fun _ _ _ h => h) (Or.inl ⟨by rfl, ?_⟩) ?_ ?_
           rotate_left
           ·intro w'
            go_simp
            with_reducible rfl
           rotate_left
           ·simp only [Act.put, sA, sB, sC, i64_w, i32_w]
            rfl
           refine pure_ (i := 15) (N := some 145) (v := ?_) (a' := ?_) (bs 48 50739) rfl rfl (any_of HT_.out (by kernel_rfl)) (fun _ _ _ h => h) (Or.inl ⟨by rfl, ?_⟩) ?_ ?_
           rotate_left
           ·intro w'
            go_simp
            with_reducible rfl
           rotate_left
           ·simp only [Act.put, sA, sB, sC, i64_w, i32_w]
            rfl
           refine pure_ (i := 19) (N := some 149) (v := ?_) (a' := ?_) (bs 48 575027) rfl rfl (any_of HT_.out (by kernel_rfl)) (fun _ _ _ h => h) (Or.inl ⟨by rfl, ?_⟩) ?_ ?_
           rotate_left
           ·intro w'
            go_simp
            with_reducible rfl
           rotate_left
           ·simp only [Act.put, sA, sB, sC, i64_w, i32_w]
            rfl
           refine pure_ (i := 20) (N := some 150) (v := ?_) (a' := ?_) (bs 48 1623603) rfl rfl (any_of HT_.out (by kernel_rfl)) (fun _ _ _ h => h) (Or.inl ⟨by rfl, ?_⟩) ?_ ?_
           rotate_left
           ·intro w'
            go_simp
            with_reducible rfl
           rotate_left
           ·simp only [Act.put, sA, sB, sC, i64_w, i32_w]
            rfl
           refine pure_ (i := 21) (N := some 151) (v := ?_) (a' := ?_) (bs 48 3720755) rfl rfl (any_of HT_.out (by kernel_rfl)) (fun _ _ _ h => h) (Or.inl ⟨by rfl, ?_⟩) ?_ ?_
           rotate_left
           ·intro w'
            go_simp
            with_reducible rfl
           rotate_left
           ·simp only [Act.put, sA, sB, sC, i64_w, i32_w]
            rfl
           refine pure_ (i := 23) (N := some 153) (v := ?_) (a' := ?_) (bs 48 12109363) rfl rfl (any_of HT_.out (by kernel_rfl)) (fun _ _ _ h => h) (Or.inl ⟨by rfl, ?_⟩) ?_ ?_
           rotate_left
           ·intro w'
            go_simp
            with_reducible rfl
           rotate_left
           ·simp only [Act.put, sA, sB, sC, i64_w, i32_w]
            rfl
           refine pure_ (i := 24) (N := some 154) (v := ?_) (a' := ?_) (bs 48 28886579) rfl rfl (any_of HT_.out (by kernel_rfl)) (fun _ _ _ h => h) (Or.inl ⟨by rfl, ?_⟩) ?_ ?_
           rotate_left
           ·intro w'
            go_simp
            with_reducible rfl
           rotate_left
           ·simp only [Act.put, sA, sB, sC, i64_w, i32_w]
            rfl
           refine pure_ (i := 27) (N := some 157) (v := ?_) (a' := ?_) (bs 48 163104307) rfl rfl (any_of HT_.out (by kernel_rfl)) (fun _ _ _ h => h) (Or.inl ⟨by rfl, ?_⟩) ?_ ?_
           rotate_left
           ·intro w'
            go_simp
            with_reducible rfl
           rotate_left
           ·simp only [Act.put, sA, sB, sC, i64_w, i32_w]
            rfl
           refine pure_ (i := 28) (N := some 158) (v := ?_) (a' := ?_) (bs 48 431539763) rfl rfl (any_of HT_.out (by kernel_rfl)) (fun _ _ _ h => h) (Or.inl ⟨by rfl, ?_⟩) ?_ ?_
           rotate_left
           ·intro w'
            go_simp
            with_reducible rfl
           rotate_left
           ·simp only [Act.put, sA, sB, sC, i64_w, i32_w]
            rfl
           refine pure_ (i := 32) (N := some 162) (v := ?_) (a' := ?_) (bs 48 4726507059) rfl rfl (any_of HT_.out (by kernel_rfl)) (fun _ _ _ h => h) (Or.inl ⟨by rfl, ?_⟩) ?_ ?_
           rotate_left
           ·intro w'
            go_simp
            with_reducible rfl
           rotate_left
           ·simp only [Act.put, sA, sB, sC, i64_w, i32_w]
            rfl
           refine pure_ (i := 33) (N := some 163) (v := ?_) (a' := ?_) (bs 48 13316441651) rfl rfl (any_of HT_.out (by kernel_rfl)) (fun _ _ _ h => h) (Or.inl ⟨by rfl, ?_⟩) ?_ ?_
           rotate_left
           ·intro w'
            go_simp
            with_reducible rfl
           rotate_left
           ·simp only [Act.put, sA, sB, sC, i64_w, i32_w]
            rfl
           refine pure_ (i := 37) (N := some 167) (v := ?_) (a' := ?_) (bs 48 150755395123) rfl rfl (any_of HT_.out (by kernel_rfl)) (fun _ _ _ h => h) (Or.inl ⟨by rfl, ?_⟩) ?_ ?_
           rotate_left
           ·intro w'
            go_simp
            with_reducible rfl
           rotate_left
           ·simp only [Act.put, sA, sB, sC, i64_w, i32_w]
            rfl
           refine pure_ (i := 38) (N := some 168) (v := ?_) (a' := ?_) (bs 48 425633302067) rfl rfl (any_of HT_.out (by kernel_rfl)) (fun _ _ _ h => h) (Or.inl ⟨by rfl, ?_⟩) ?_ ?_
           rotate_left
           ·intro w'
            go_simp
            with_reducible rfl
           rotate_left
           ·simp only [Act.put, sA, sB, sC, i64_w, i32_w]
            rfl
           refine pure_ (i := 42) (N := some 172) (v := ?_) (a' := ?_) (bs 48 4823679813171) rfl rfl (any_of HT_.out (by kernel_rfl)) (fun _ _ _ h => h) (Or.inl ⟨by rfl, ?_⟩) ?_ ?_
           rotate_left
           ·intro w'
            go_simp
            with_reducible rfl
           rotate_left
           ·simp only [Act.put, sA, sB, sC, i64_w, i32_w]
            rfl
           refine pure_ (i := 43) (N := some 173) (v := ?_) (a' := ?_) (bs 48 13619772835379) rfl rfl (any_of HT_.out (by kernel_rfl)) (fun _ _ _ h => h) (Or.inl ⟨by rfl, ?_⟩) ?_ ?_
           rotate_left
           ·intro w'
            go_simp
            with_reducible rfl
           rotate_left
           ·simp only [Act.put, sA, sB, sC, i64_w, i32_w]
            rfl
           refine pure_ (i := 44) (N := some 174) (v := ?_) (a' := ?_) (bs 48 31211958879795) rfl rfl (any_of HT_.out (by kernel_rfl)) (fun _ _ _ h => h) (Or.inl ⟨by rfl, ?_⟩) ?_ ?_
           rotate_left
           ·intro w'
            go_simp
            with_reducible rfl
           rotate_left
           ·simp only [Act.put, sA, sB, sC, i64_w, i32_w]
            rfl
           refine take_ (i := 2) (N := some 132) (v := ?_) (a' := ?_) (bs 48 31211958879799) rfl rfl (take_ofW HT_.out HW_.out (by kernel_rfl)) (fun _ _ _ h => h) (Or.inl ⟨by rfl, ?_⟩) hHeld ?_ ?_
           rotate_left
           ·rintro w' ⟨s0, s1, s2, s3, s4, s5, s6, s7⟩
            go_simp
            with_reducible rfl
           rotate_left
           ·simp only [Act.put, sA, sB, sC, i64_w, i32_w]
            rfl
           refine pure_ (i := 3) (N := some 133) (v := ?_) (a' := ?_) (bs 48 31211958879807) rfl rfl (any_of HT_.out (by kernel_rfl)) (fun _ _ _ h => h) (Or.inl ⟨by rfl, ?_⟩) ?_ ?_
           rotate_left
           ·intro w'
            go_simp
            with_reducible rfl
           rotate_left
           ·simp only [Act.put, sA, sB, sC, i64_w, i32_w]
            rfl
           refine take_ (i := 6) (N := some 136) (v := ?_) (a' := ?_) (bs 48 31211958879871) rfl rfl (take_ofW HT_.out HW_.out (by kernel_rfl)) (fun _ _ _ h => h) (Or.inl ⟨by rfl, ?_⟩) hHeld ?_ ?_
           rotate_left
           ·rintro w' ⟨s0, s1, s2, s3, s4, s5, s6, s7⟩
            go_simp
            with_reducible rfl
           rotate_left
           ·simp only [Act.put, sA, sB, sC, i64_w, i32_w]
            rfl
           refine pure_ (i := 7) (N := some 137) (v := ?_) (a' := ?_) (bs 48 31211958879999) rfl rfl (any_of HT_.out (by kernel_rfl)) (fun _ _ _ h => h) (Or.inl ⟨by rfl, ?_⟩) ?_ ?_
           rotate_left
           ·intro w'
            go_simp
            with_reducible rfl
           rotate_left
           ·simp only [Act.put, sA, sB, sC, i64_w, i32_w]
            rfl
           refine pure_ (i := 8) (N := some 138) (v := ?_) (a' := ?_) (bs 48 31211958880255) rfl rfl (any_of HT_.out (by kernel_rfl)) (fun _ _ _ h => h) (Or.inl ⟨by rfl, ?_⟩) ?_ ?_
           rotate_left
           ·intro w'
            go_simp
            with_reducible rfl
           rotate_left
           ·simp only [Act.put, sA, sB, sC, i64_w, i32_w]
            rfl
           refine take_ (i := 11) (N := some 141) (v := ?_) (a' := ?_) (bs 48 31211958882303) rfl rfl (take_ofW HT_.out HW_.out (by kernel_rfl)) (fun _ _ _ h => h) (Or.inl ⟨by rfl, ?_⟩) hHeld ?_ ?_
           rotate_left
           ·rintro w' ⟨s0, s1, s2, s3, s4, s5, s6, s7⟩
            go_simp
            with_reducible rfl
           rotate_left
           ·simp only [Act.put, sA, sB, sC, i64_w, i32_w]
            rfl
           refine pure_ (i := 12) (N := some 142) (v := ?_) (a' := ?_) (bs 48 31211958886399) rfl rfl (any_of HT_.out (by kernel_rfl)) (fun _ _ _ h => h) (Or.inl ⟨by rfl, ?_⟩) ?_ ?_
           rotate_left
           ·intro w'
            go_simp
            with_reducible rfl
           rotate_left
           ·simp only [Act.put, sA, sB, sC, i64_w, i32_w]
            rfl
           refine pure_ (i := 13) (N := some 143) (v := ?_) (a' := ?_) (bs 48 31211958894591) rfl rfl (any_of HT_.out (by kernel_rfl)) (fun _ _ _ h => h) (Or.inl ⟨by rfl, ?_⟩) ?_ ?_
           rotate_left
           ·intro w'
            go_simp
            with_reducible rfl
           rotate_left
           ·simp only [Act.put, sA, sB, sC, i64_w, i32_w]
            rfl
           refine take_ (i := 16) (N := some 146) (v := ?_) (a' := ?_) (bs 48 31211958960127) rfl rfl (take_ofW HT_.out HW_.out (by kernel_rfl)) (fun _ _ _ h => h) (Or.inl ⟨by rfl, ?_⟩) hHeld ?_ ?_
           rotate_left
           ·rintro w' ⟨s0, s1, s2, s3, s4, s5, s6, s7⟩
            go_simp
            with_reducible rfl
           rotate_left
           ·simp only [Act.put, sA, sB, sC, i64_w, i32_w]
            rfl
           refine pure_ (i := 17) (N := some 147) (v := ?_) (a' := ?_) (bs 48 31211959091199) rfl rfl (any_of HT_.out (by kernel_rfl)) (fun _ _ _ h => h) (Or.inl ⟨by rfl, ?_⟩) ?_ ?_
           rotate_left
           ·intro w'
            go_simp
            with_reducible rfl
           rotate_left
           ·simp only [Act.put, sA, sB, sC, i64_w, i32_w]
            rfl
           refine pure_ (i := 18) (N := some 148) (v := ?_) (a' := ?_) (bs 48 31211959353343) rfl rfl (any_of HT_.out (by kernel_rfl)) (fun _ _ _ h => h) (Or.inl ⟨by rfl, ?_⟩) ?_ ?_
           rotate_left
           ·intro w'
            go_simp
            with_reducible rfl
           rotate_left
           ·simp only [Act.put, sA, sB, sC, i64_w, i32_w]
            rfl
           refine take_ (i := 25) (N := some 155) (v := ?_) (a' := ?_) (bs 48 31211992907775) rfl rfl (take_ofW HT_.out HW_.out (by kernel_rfl)) (fun _ _ _ h => h) (Or.inl ⟨by rfl, ?_⟩) hHeld ?_ ?_
           rotate_left
           ·rintro w' ⟨s0, s1, s2, s3, s4, s5, s6, s7⟩
            go_simp
            with_reducible rfl
           rotate_left
           ·simp only [Act.put, sA, sB, sC, i64_w, i32_w]
            rfl
           refine pure_ (i := 26) (N := some 156) (v := ?_) (a' := ?_) (bs 48 31212060016639) rfl rfl (any_of HT_.out (by kernel_rfl)) (fun _ _ _ h => h) (Or.inl ⟨by rfl, ?_⟩) ?_ ?_
           rotate_left
           ·intro w'
            go_simp
            with_reducible rfl
           rotate_left
           ·simp only [Act.put, sA, sB, sC, i64_w, i32_w]
            rfl
           refine take_ (i := 29) (N := some 159) (v := ?_) (a' := ?_) (bs 48 31212596887551) rfl rfl (take_ofW HT_.out HW_.out (by kernel_rfl)) (fun _ _ _ h => h) (Or.inl ⟨by rfl, ?_⟩) hHeld ?_ ?_
           rotate_left
           ·rintro w' ⟨s0, s1, s2, s3, s4, s5, s6, s7⟩
            go_simp
            with_reducible rfl
           rotate_left
           ·simp only [Act.put, sA, sB, sC, i64_w, i32_w]
            rfl
           refine pure_ (i := 30) (N := some 160) (v := ?_) (a' := ?_) (bs 48 31213670629375) rfl rfl (any_of HT_.out (by kernel_rfl)) (fun _ _ _ h => h) (Or.inl ⟨by rfl, ?_⟩) ?_ ?_
           rotate_left
           ·intro w'
            go_simp
            with_reducible rfl
           rotate_left
           ·simp only [Act.put, sA, sB, sC, i64_w, i32_w]
            rfl
           refine pure_ (i := 31) (N := some 161) (v := ?_) (a' := ?_) (bs 48 31215818113023) rfl rfl (any_of HT_.out (by kernel_rfl)) (fun _ _ _ h => h) (Or.inl ⟨by rfl, ?_⟩) ?_ ?_
           rotate_left
           ·intro w'
            go_simp
            with_reducible rfl
           rotate_left
           ·simp only [Act.put, sA, sB, sC, i64_w, i32_w]
            rfl
           refine take_ (i := 34) (N := some 164) (v := ?_) (a' := ?_) (bs 48 31232997982207) rfl rfl (take_ofW HT_.out HW_.out (by kernel_rfl)) (fun _ _ _ h => h) (Or.inl ⟨by rfl, ?_⟩) hHeld ?_ ?_
           rotate_left
           ·rintro w' ⟨s0, s1, s2, s3, s4, s5, s6, s7⟩
            go_simp
            with_reducible rfl
           rotate_left
           ·simp only [Act.put, sA, sB, sC, i64_w, i32_w]
            rfl
           refine pure_ (i := 35) (N := some 165) (v := ?_) (a' := ?_) (bs 48 31267357720575) rfl rfl (any_of HT_.out (by kernel_rfl)) (fun _ _ _ h => h) (Or.inl ⟨by rfl, ?_⟩) ?_ ?_
           rotate_left
           ·intro w'
            go_simp
            with_reducible rfl
           rotate_left
           ·simp only [Act.put, sA, sB, sC, i64_w, i32_w]
            rfl
           refine pure_ (i := 36) (N := some 166) (v := ?_) (a' := ?_) (bs 48 31336077197311) rfl rfl (any_of HT_.out (by kernel_rfl)) (fun _ _ _ h => h) (Or.inl ⟨by rfl, ?_⟩) ?_ ?_
           rotate_left
           ·intro w'
            go_simp
            with_reducible rfl
           rotate_left
           ·simp only [Act.put, sA, sB, sC, i64_w, i32_w]
            rfl
           refine take_ (i := 39) (N := some 169) (v := ?_) (a' := ?_) (bs 48 31885833011199) rfl rfl (take_ofW HT_.out HW_.out (by kernel_rfl)) (fun _ _ _ h => h) (Or.inl ⟨by rfl, ?_⟩) hHeld ?_ ?_
           rotate_left
           ·rintro w' ⟨s0, s1, s2, s3, s4, s5, s6, s7⟩
            go_simp
            with_reducible rfl
           rotate_left
           ·simp only [Act.put, sA, sB, sC, i64_w, i32_w]
            rfl
           refine pure_ (i := 40) (N := some 170) (v := ?_) (a' := ?_) (bs 48 32985344638975) rfl rfl (any_of HT_.out (by kernel_rfl)) (fun _ _ _ h => h) (Or.inl ⟨by rfl, ?_⟩) ?_ ?_
           rotate_left
           ·intro w'
            go_simp
            with_reducible rfl
           rotate_left
           ·simp only [Act.put, sA, sB, sC, i64_w, i32_w]
            rfl
           refine pure_ (i := 41) (N := some 171) (v := ?_) (a' := ?_) (bs 48 35184367894527) rfl rfl (any_of HT_.out (by kernel_rfl)) (fun _ _ _ h => h) (Or.inl ⟨by rfl, ?_⟩) ?_ ?_
           rotate_left
           ·intro w'
            go_simp
            with_reducible rfl
           rotate_left
           ·simp only [Act.put, sA, sB, sC, i64_w, i32_w]
            rfl
           refine one_ (i := 22) (N := some 152) (bs 48 35184372088831) rfl rfl (one_of HT_.out (by kernel_rfl)) (by decide) (fun K hK => ?_)
           refine goes_ Try.func31 (by kernel_rfl) rfl #[.int .i64 (wrap64 ((wrap64 ((wrap64 ((wrap64 ((wrap64 ((wrap64 (a0_2 - (wrap64 (t147 - (wrap64 (t149 * a0_2)))))) * (wrap64 (a0_2 - (wrap64 (t148 - (wrap64 (t150 * a0_2)))))))) * ((rd_T28 l0_3 (ji11)).f0))) + (wrap64 ((wrap64 ((wrap64 (t147 - (wrap64 (t149 * a0_2)))) * (wrap64 (a0_2 - (wrap64 (t148 - (wrap64 (t150 * a0_2)))))))) * ((rd_T28 l0_3 (ji14)).f0))))) + (wrap64 ((wrap64 ((wrap64 (a0_2 - (wrap64 (t147 - (wrap64 (t149 * a0_2)))))) * (wrap64 (t148 - (wrap64 (t150 * a0_2)))))) * ((rd_T28 l0_3 (ji17)).f0))))) + (wrap64 ((wrap64 ((wrap64 (t147 - (wrap64 (t149 * a0_2)))) * (wrap64 (t148 - (wrap64 (t150 * a0_2)))))) * ((rd_T28 l0_3 (ji20)).f0))))), .int .i64 (wrap64 (a0_2 * a0_2))] (by rfl) rfl rfl (by (try simp only [List.map_toArray, List.map_cons, List.map_nil]); first | done | (simp only [hji11, hji14, hji17, hji20]; rfl) | rfl | (simp only [List.length_drop, List.length_take]; rfl)) ?_
           with_reducible refine (imageeditorref01_Div.calls k (wrap64 ((wrap64 ((wrap64 ((wrap64 ((wrap64 ((wrap64 (a0_2 - (wrap64 (t147 - (wrap64 (t149 * a0_2)))))) * (wrap64 (a0_2 - (wrap64 (t148 - (wrap64 (t150 * a0_2)))))))) * ((rd_T28 l0_3 (ji11)).f0))) + (wrap64 ((wrap64 ((wrap64 (t147 - (wrap64 (t149 * a0_2)))) * (wrap64 (a0_2 - (wrap64 (t148 - (wrap64 (t150 * a0_2)))))))) * ((rd_T28 l0_3 (ji14)).f0))))) + (wrap64 ((wrap64 ((wrap64 (a0_2 - (wrap64 (t147 - (wrap64 (t149 * a0_2)))))) * (wrap64 (t148 - (wrap64 (t150 * a0_2)))))) * ((rd_T28 l0_3 (ji17)).f0))))) + (wrap64 ((wrap64 ((wrap64 (t147 - (wrap64 (t149 * a0_2)))) * (wrap64 (t148 - (wrap64 (t150 * a0_2)))))) * ((rd_T28 l0_3 (ji20)).f0))))) (wrap64 (a0_2 * a0_2)) t159 _ A23.out).mono ?_
           rintro e w' ⟨rfl, ⟨nd, rfl⟩⟩
           refine ⟨_, rfl, ?_⟩
           refine hK.out _ _ ⟨(blk_cell BK153.out 0).trans rfl, (blk_cell BK153.out 1).trans rfl, (blk_cell BK154.out 0).trans rfl, (blk_cell BK154.out 1).trans rfl, (blk_cell BK157.out 0).trans rfl, (blk_cell BK157.out 1).trans rfl, (blk_cell BK158.out 0).trans rfl, (blk_cell BK158.out 1).trans rfl⟩ (fun hHeld => ?_)
           clear hK K
           refine norm_ (a' := ?_) ?_ ?_
           rotate_left
           ·show Act.put _ (some 152) _ = _
            simp only [Act.put, sA, sB, sC, i64_w, i32_w]
            rfl
           refine one_ (i := 45) (N := some 175) (bs 48 70368744177663) rfl rfl (one_of HT_.out (by kernel_rfl)) (by decide) (fun K hK => ?_)
           refine goes_ Try.func31 (by kernel_rfl) rfl #[.int .i64 (wrap64 ((wrap64 ((wrap64 ((wrap64 ((wrap64 ((wrap64 (a0_2 - (wrap64 (t147 - (wrap64 (t149 * a0_2)))))) * (wrap64 (a0_2 - (wrap64 (t148 - (wrap64 (t150 * a0_2)))))))) * ((rd_T28 l0_3 (ji11)).f1))) + (wrap64 ((wrap64 ((wrap64 (t147 - (wrap64 (t149 * a0_2)))) * (wrap64 (a0_2 - (wrap64 (t148 - (wrap64 (t150 * a0_2)))))))) * ((rd_T28 l0_3 (ji14)).f1))))) + (wrap64 ((wrap64 ((wrap64 (a0_2 - (wrap64 (t147 - (wrap64 (t149 * a0_2)))))) * (wrap64 (t148 - (wrap64 (t150 * a0_2)))))) * ((rd_T28 l0_3 (ji17)).f1))))) + (wrap64 ((wrap64 ((wrap64 (t147 - (wrap64 (t149 * a0_2)))) * (wrap64 (t148 - (wrap64 (t150 * a0_2)))))) * ((rd_T28 l0_3 (ji20)).f1))))), .int .i64 (wrap64 (a0_2 * a0_2))] (by rfl) rfl rfl (by (try simp only [List.map_toArray, List.map_cons, List.map_nil]); first | done | (simp only [hji11, hji14, hji17, hji20]; rfl) | rfl | (simp only [List.length_drop, List.length_take]; rfl)) ?_
           with_reducible refine (imageeditorref01_Div.calls k (wrap64 ((wrap64 ((wrap64 ((wrap64 ((wrap64 ((wrap64 (a0_2 - (wrap64 (t147 - (wrap64 (t149 * a0_2)))))) * (wrap64 (a0_2 - (wrap64 (t148 - (wrap64 (t150 * a0_2)))))))) * ((rd_T28 l0_3 (ji11)).f1))) + (wrap64 ((wrap64 ((wrap64 (t147 - (wrap64 (t149 * a0_2)))) * (wrap64 (a0_2 - (wrap64 (t148 - (wrap64 (t150 * a0_2)))))))) * ((rd_T28 l0_3 (ji14)).f1))))) + (wrap64 ((wrap64 ((wrap64 (a0_2 - (wrap64 (t147 - (wrap64 (t149 * a0_2)))))) * (wrap64 (t148 - (wrap64 (t150 * a0_2)))))) * ((rd_T28 l0_3 (ji17)).f1))))) + (wrap64 ((wrap64 ((wrap64 (t147 - (wrap64 (t149 * a0_2)))) * (wrap64 (t148 - (wrap64 (t150 * a0_2)))))) * ((rd_T28 l0_3 (ji20)).f1))))) (wrap64 (a0_2 * a0_2)) t160 _ A24.out).mono ?_
           rintro e w' ⟨rfl, ⟨nd, rfl⟩⟩
           refine ⟨_, rfl, ?_⟩
           refine hK.out _ _ ⟨(blk_cell BK153.out 0).trans rfl, (blk_cell BK153.out 1).trans rfl, (blk_cell BK154.out 0).trans rfl, (blk_cell BK154.out 1).trans rfl, (blk_cell BK157.out 0).trans rfl, (blk_cell BK157.out 1).trans rfl, (blk_cell BK158.out 0).trans rfl, (blk_cell BK158.out 1).trans rfl⟩ (fun hHeld => ?_)
           clear hK K
           refine norm_ (a' := ?_) ?_ ?_
           rotate_left
           ·show Act.put _ (some 175) _ = _
            simp only [Act.put, sA, sB, sC, i64_w, i32_w]
            rfl
           refine pure_ (i := 46) (N := some 176) (v := ?_) (a' := ?_) (bs 48 140737488355327) rfl rfl (any_of HT_.out (by kernel_rfl)) (fun _ _ _ h => h) (Or.inl ⟨by rfl, ?_⟩) ?_ ?_
           rotate_left
           ·intro w'
            go_simp
            with_reducible rfl
           rotate_left
           ·simp only [Act.put, sA, sB, sC, i64_w, i32_w]
            rfl
           refine one_ (i := 47) (N := none) (bs 48 281474976710655) rfl rfl (one_of HT_.out (by kernel_rfl)) (by decide) (fun K hK => ?_)
           have hs56 : w55.cell? ⟨gb145, 0, none⟩ = some (.int .i64 0) := (blk_cell BK145.out 0).trans rfl
           have hfs56 := blk_frozen BK145.out 0
           have hns56_0 := NB144_145.out
           have hns56_2 := NB153_145.out
           have hns56_3 := NB154_145.out
           have hns56_4 := NB157_145.out
           have hns56_5 := NB158_145.out
           have hms56_0 := NB145_144.out
           have hms56_2 := NB145_153.out
           have hms56_3 := NB145_154.out
           have hms56_4 := NB145_157.out
           have hms56_5 := NB145_158.out
           have hs57 : w55.cell? ⟨gb145, 1, none⟩ = some (.int .i64 0) := (blk_cell BK145.out 1).trans rfl
           have hfs57 := blk_frozen BK145.out 1
           have hns57_0 := NB144_145.out
           have hns57_2 := NB153_145.out
           have hns57_3 := NB154_145.out
           have hns57_4 := NB157_145.out
           have hns57_5 := NB158_145.out
           have hms57_0 := NB145_144.out
           have hms57_2 := NB145_153.out
           have hms57_3 := NB145_154.out
           have hms57_4 := NB145_157.out
           have hms57_5 := NB145_158.out
           refine skip_ (w1 := ?_) (by rfl) rfl ?_ ?_
           rotate_left
           ·go_simp
            rfl
           refine hK.out _ _ ⟨((cell_far (p := ⟨gb145, _, none⟩) NB153_145.out _).trans (((cell_far (p := ⟨gb145, _, none⟩) NB153_145.out _).trans (hHeld.1)))), ((cell_far (p := ⟨gb145, _, none⟩) NB153_145.out _).trans (((cell_far (p := ⟨gb145, _, none⟩) NB153_145.out _).trans (hHeld.2.1)))), ((cell_far (p := ⟨gb145, _, none⟩) NB154_145.out _).trans (((cell_far (p := ⟨gb145, _, none⟩) NB154_145.out _).trans (hHeld.2.2.1)))), ((cell_far (p := ⟨gb145, _, none⟩) NB154_145.out _).trans (((cell_far (p := ⟨gb145, _, none⟩) NB154_145.out _).trans (hHeld.2.2.2.1)))), ((cell_far (p := ⟨gb145, _, none⟩) NB157_145.out _).trans (((cell_far (p := ⟨gb145, _, none⟩) NB157_145.out _).trans (hHeld.2.2.2.2.1)))), ((cell_far (p := ⟨gb145, _, none⟩) NB157_145.out _).trans (((cell_far (p := ⟨gb145, _, none⟩) NB157_145.out _).trans (hHeld.2.2.2.2.2.1)))), ((cell_far (p := ⟨gb145, _, none⟩) NB158_145.out _).trans (((cell_far (p := ⟨gb145, _, none⟩) NB158_145.out _).trans (hHeld.2.2.2.2.2.2.1)))), ((cell_far (p := ⟨gb145, _, none⟩) NB158_145.out _).trans (((cell_far (p := ⟨gb145, _, none⟩) NB158_145.out _).trans (hHeld.2.2.2.2.2.2.2))))⟩ (fun hHeld => ?_)
           clear hK K
           refine done_ (done_of HT_.out (by kernel_rfl)) ?_
           try go_wp2
           refine bodyPost_ret (results_cell_row rfl _ _ gb145 28 #[.int .i64 t159, .int .i64 t160] (0, 0) _ rfl (by exact zp BK145 rfl) Try.underlying28 rfl (by kernel_rfl)) rfl ?_
           exact ⟨by first | rfl | (simp [errW_none, errW_some] <;> rfl) | (simp only [← hji11, ← hji14, ← hji17, ← hji20]; first | rfl | (simp [errW_none, errW_some] <;> rfl)) | (simp [*, errW_none, errW_some] <;> rfl), by exact zbo HB GE145⟩
          ·rw [if_neg c22] at H
           exact absurd H (by simp)
         ·rw [if_neg c21] at H
          exact absurd H (by simp)
        ·rw [if_neg c19] at H
         exact absurd H (by simp)
       ·rw [if_neg c18] at H
        exact absurd H (by simp)
      ·rw [if_neg c16] at H
       exact absurd H (by simp)
     ·rw [if_neg c15] at H
      exact absurd H (by simp)
    ·rw [if_neg c13] at H
     exact absurd H (by simp)
   ·rw [if_neg c12] at H
    exact absurd H (by simp)
 ·rw [if_neg c5] at H
  have c5b0 : (t146 == 0) = false := beq_eq_false_iff_ne.mpr c5
  have c5b1 : (t146 != 0) = true := bne_iff_ne.mpr c5
  simp only [Option.some.injEq, Prod.mk.injEq] at H
  obtain ⟨rfl, rfl⟩ := H
  go_enter Try.func13, Try.ntmps13
  go_wp2_with (first | ((with_reducible refine gate_dst (N := 3) rfl ?_); refine box_event ?hg (N := 3) ?hd (cs := #[.int .i64 a0_0, .int .i64 a0_1, .int .i64 a0_2, .slice A0_3 l0_3.length c0_3]) (t := 24) ?hr ?_; (case hd => rfl); (case hg => rfl); (case hr => first | (go_simp; done) | (go_simp; rfl)); intro gb144 hg w58 hbox hb; have GW144 := zg HB hg; have GE144 := zg HB hg; have n0_ := Aside0.mk (hbox); replace HB := zb HB hb; have BK144 := n0_; clear n0_; clear hb hbox hg) | ((with_reducible refine gate_dst (N := 6) rfl ?_); refine box_event ?hg (N := 6) ?hd (cs := #[.int .i64 0, .int .i64 0]) (t := 28) ?hr ?_; (case hd => rfl); (case hg => rfl); (case hr => first | (go_simp; done) | (go_simp; rfl)); intro gb145 hg w59 hbox hb; have GW145 := zg HB hg; have GE145 := zg HB hg; have NB144_145 := zn BK144 hg; have NB145_144 := zn' BK144 hg; have n0_ := Aside0.mk (hbox); replace BK144 := zk BK144 hb; replace HB := zb HB hb; have BK145 := n0_; clear n0_; clear hb hbox hg; have hnb60 := NB144_145.out; have hnc60 := NB145_144.out; obtain ⟨hcz61_0, hcz61_1, hcz61_2, hcz61_3, hfz61_0, hfz61_1, hfz61_2, hfz61_3⟩ := zq4 BK144) | ((with_reducible refine gate_callee (f := 11) rfl ?_); refine goesL_ (some 23) rfl rfl Try.func11 (by kernel_rfl) rfl #[.agg #[.int .i64 a0_0, .int .i64 a0_1, .int .i64 a0_2, .slice A0_3 l0_3.length c0_3]] rfl (by (try simp only [List.map_toArray, List.map_cons, List.map_nil]); first | done | rfl | (simp only [List.length_drop, List.length_take]; rfl)) ?_; (with_reducible refine (imageeditorref15_Check.calls k a0_0 a0_1 a0_2 _ _ l0_3 t146 _ ?side1 ?side2 A4.out).mono ?_); (case side1 => repeat (first | exact (Kd.C_below HR0_3.out HB.out) | (with_reducible refine Kd.C_alloc ?_ _) | (with_reducible refine Kd.C_drewN ?_ _) | (with_reducible refine Kd.C_drew ?_))); (case side2 => exact HC0_3.out); rintro e w62 ⟨rfl, hb⟩; refine ⟨_, rfl, ?_⟩; replace BK144 := zk BK144 hb; replace BK145 := zk BK145 hb; replace HB := zb HB hb; (try clear hb); (try clear hb2); (try clear hk); (try clear hi); obtain ⟨hcz63_0, hcz63_1, hfz63_0, hfz63_1⟩ := zq2 BK145))
  refine bodyPost_ret (results_cell_row rfl _ _ gb145 28 #[.int .i64 0, .int .i64 0] (0, 0) _ rfl (by exact zp BK145 rfl) Try.underlying28 rfl (by kernel_rfl)) rfl ?_
  exact ⟨by first | rfl | (simp [errW_none, errW_some] <;> rfl) | (simp [*, errW_none, errW_some] <;> rfl), by exact zbo HB GE145⟩

end Go.Proofs.Ytnfbabmceddciaa.G
