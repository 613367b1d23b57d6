/- Contracts of functions of the program, each as it is called: what it computes (.f), that it computes no less with more rounds (.mono), and that a call returns just that (.calls). No conditions but those that each contract names. Written by a program of this session (wip/gx.py over the kit's print). -/
import Derived.Test.YtapdifpmijgkcaaG0
import Derived.Test.YtapdifpmijgkcaaG5
namespace Go.Proofs.Ytapdifpmijgkcaa.G
open Go.RowKit Go.Proofs.YtapdifpmijgkcaaW.PrintWords Go.Proofs.YtapdifpmijgkcaaW.PrintLast Go.Proofs.YtapdifpmijgkcaaW.PrintMore
attribute [local go_sem] max2_int min2_int max_two min_two max_three min_three max_four min_four   -- for this text's walks alone
set_option linter.unusedVariables false
set_option linter.unusedSimpArgs false


/-! ### bits_Div64: function 74 -/
mutual
def bits_Div64.j2 : Nat → Int → Int → Int → Int → Int → Int → Int → Int → Option (Int × Int)
 | 0, _, _, _, _, _, _, _, _ => none
 | k + 1, x2, x8, x9, x10, x11, x13, x14, x15 => if x9 = 0 then (none) else (bits_Div64.l1 k x2 x8 x9 x10 x14 x15 (IntKind.u64.wrap ((IntKind.u64.wrap ((IntKind.u64.wrap ((IntKind.u64.wrap (x11 * 4294967296)) + x13)) - (IntKind.u64.wrap (x15 * x2)))) - (IntKind.u64.wrap ((IntKind.u64.wrap (Int.tdiv (IntKind.u64.wrap ((IntKind.u64.wrap ((IntKind.u64.wrap (x11 * 4294967296)) + x13)) - (IntKind.u64.wrap (x15 * x2)))) x9)) * x9)))) (IntKind.u64.wrap ((IntKind.u64.wrap ((IntKind.u64.wrap (x11 * 4294967296)) + x13)) - (IntKind.u64.wrap (x15 * x2)))) (IntKind.u64.wrap (Int.tdiv (IntKind.u64.wrap ((IntKind.u64.wrap ((IntKind.u64.wrap (x11 * 4294967296)) + x13)) - (IntKind.u64.wrap (x15 * x2)))) x9)))
def bits_Div64.l1 : Nat → Int → Int → Int → Int → Int → Int → Int → Int → Int → Option (Int × Int)
 | 0, _, _, _, _, _, _, _, _, _ => none
 | k + 1, x2, x8, x9, x10, x14, x15, x16, x17, x18 => if x18 ≥ 4294967296 then (bits_Div64.j4 k x2 x8 x9 x10 x14 x15 x16 x17 x18 true) else (bits_Div64.j4 k x2 x8 x9 x10 x14 x15 x16 x17 x18 (decide ((IntKind.u64.wrap (x18 * x10)) > (IntKind.u64.wrap ((IntKind.u64.wrap (4294967296 * x16)) + x14)))))
def bits_Div64.j4 : Nat → Int → Int → Int → Int → Int → Int → Int → Int → Int → Bool → Option (Int × Int)
 | 0, _, _, _, _, _, _, _, _, _, _ => none
 | k + 1, x2, x8, x9, x10, x14, x15, x16, x17, x18, x113 => if x113 = true then (if (IntKind.u64.wrap (x16 + x9)) ≥ 4294967296 then (if 0 ≤ x8 then (some (IntKind.u64.wrap ((IntKind.u64.wrap (x15 * 4294967296)) + (IntKind.u64.wrap (x18 - 1))), shr .u64 (IntKind.u64.wrap ((IntKind.u64.wrap ((IntKind.u64.wrap (x17 * 4294967296)) + x14)) - (IntKind.u64.wrap ((IntKind.u64.wrap (x18 - 1)) * x2)))) x8)) else (none)) else (bits_Div64.l1 k x2 x8 x9 x10 x14 x15 (IntKind.u64.wrap (x16 + x9)) x17 (IntKind.u64.wrap (x18 - 1)))) else (if 0 ≤ x8 then (some (IntKind.u64.wrap ((IntKind.u64.wrap (x15 * 4294967296)) + x18), shr .u64 (IntKind.u64.wrap ((IntKind.u64.wrap ((IntKind.u64.wrap (x17 * 4294967296)) + x14)) - (IntKind.u64.wrap (x18 * x2)))) x8)) else (none))
def bits_Div64.l0 : Nat → Int → Int → Int → Int → Int → Int → Int → Int → Int → Option (Int × Int)
 | 0, _, _, _, _, _, _, _, _, _ => none
 | k + 1, x2, x8, x9, x10, x11, x13, x14, x15, x16 => if x15 ≥ 4294967296 then (bits_Div64.j1 k x2 x8 x9 x10 x11 x13 x14 x15 x16 true) else (bits_Div64.j1 k x2 x8 x9 x10 x11 x13 x14 x15 x16 (decide ((IntKind.u64.wrap (x15 * x10)) > (IntKind.u64.wrap ((IntKind.u64.wrap (4294967296 * x16)) + x13)))))
def bits_Div64.j1 : Nat → Int → Int → Int → Int → Int → Int → Int → Int → Int → Bool → Option (Int × Int)
 | 0, _, _, _, _, _, _, _, _, _, _ => none
 | k + 1, x2, x8, x9, x10, x11, x13, x14, x15, x16, x78 => if x78 = true then (if (IntKind.u64.wrap (x16 + x9)) ≥ 4294967296 then (bits_Div64.j2 k x2 x8 x9 x10 x11 x13 x14 (IntKind.u64.wrap (x15 - 1))) else (bits_Div64.l0 k x2 x8 x9 x10 x11 x13 x14 (IntKind.u64.wrap (x15 - 1)) (IntKind.u64.wrap (x16 + x9)))) else (bits_Div64.j2 k x2 x8 x9 x10 x11 x13 x14 x15)
end
def bits_Div64.f (k : Nat) (a0 : Int) (a1 : Int) (a2 : Int) : Option (Int × Int) := if a2 = 0 then (none) else (if a2 ≤ a0 then (none) else (if a0 = 0 then (some (IntKind.u64.wrap (Int.tdiv a1 a2), Int.tmod a1 a2)) else ((bits_LeadingZeros64.f k a2).bind fun t207 => (if 0 ≤ (IntKind.u64.wrap (t207)) then (if 0 ≤ (IntKind.u64.wrap (64 - (IntKind.u64.wrap (t207)))) then (if ((shl .u64 a2 (IntKind.u64.wrap (t207))) / 4294967296) = 0 then (none) else (bits_Div64.l0 k (shl .u64 a2 (IntKind.u64.wrap (t207))) (IntKind.u64.wrap (t207)) ((shl .u64 a2 (IntKind.u64.wrap (t207))) / 4294967296) (Go.bits .and .u64 (shl .u64 a2 (IntKind.u64.wrap (t207))) 4294967295) (Go.bits .or .u64 (shl .u64 a0 (IntKind.u64.wrap (t207))) (shr .u64 a1 (IntKind.u64.wrap (64 - (IntKind.u64.wrap (t207)))))) ((shl .u64 a1 (IntKind.u64.wrap (t207))) / 4294967296) (Go.bits .and .u64 (shl .u64 a1 (IntKind.u64.wrap (t207))) 4294967295) (IntKind.u64.wrap (Int.tdiv (Go.bits .or .u64 (shl .u64 a0 (IntKind.u64.wrap (t207))) (shr .u64 a1 (IntKind.u64.wrap (64 - (IntKind.u64.wrap (t207)))))) ((shl .u64 a2 (IntKind.u64.wrap (t207))) / 4294967296))) (IntKind.u64.wrap ((Go.bits .or .u64 (shl .u64 a0 (IntKind.u64.wrap (t207))) (shr .u64 a1 (IntKind.u64.wrap (64 - (IntKind.u64.wrap (t207)))))) - (IntKind.u64.wrap ((IntKind.u64.wrap (Int.tdiv (Go.bits .or .u64 (shl .u64 a0 (IntKind.u64.wrap (t207))) (shr .u64 a1 (IntKind.u64.wrap (64 - (IntKind.u64.wrap (t207)))))) ((shl .u64 a2 (IntKind.u64.wrap (t207))) / 4294967296))) * ((shl .u64 a2 (IntKind.u64.wrap (t207))) / 4294967296))))))) else (none)) else (none)))))
theorem bits_Div64.mono_l : ∀ k, (∀ y0 y1 y2 y3 y4 y5 y6 y7, LeO (bits_Div64.j2 k y0 y1 y2 y3 y4 y5 y6 y7) (bits_Div64.j2 (k + 1) y0 y1 y2 y3 y4 y5 y6 y7)) ∧ (∀ y0 y1 y2 y3 y4 y5 y6 y7 y8, LeO (bits_Div64.l1 k y0 y1 y2 y3 y4 y5 y6 y7 y8) (bits_Div64.l1 (k + 1) y0 y1 y2 y3 y4 y5 y6 y7 y8)) ∧ (∀ y0 y1 y2 y3 y4 y5 y6 y7 y8 y9, LeO (bits_Div64.j4 k y0 y1 y2 y3 y4 y5 y6 y7 y8 y9) (bits_Div64.j4 (k + 1) y0 y1 y2 y3 y4 y5 y6 y7 y8 y9)) ∧ (∀ y0 y1 y2 y3 y4 y5 y6 y7 y8, LeO (bits_Div64.l0 k y0 y1 y2 y3 y4 y5 y6 y7 y8) (bits_Div64.l0 (k + 1) y0 y1 y2 y3 y4 y5 y6 y7 y8)) ∧ (∀ y0 y1 y2 y3 y4 y5 y6 y7 y8 y9, LeO (bits_Div64.j1 k y0 y1 y2 y3 y4 y5 y6 y7 y8 y9) (bits_Div64.j1 (k + 1) y0 y1 y2 y3 y4 y5 y6 y7 y8 y9))
 | 0 => ⟨fun _ _ _ _ _ _ _ _ r h => by simp [bits_Div64.j2] at h, fun _ _ _ _ _ _ _ _ _ r h => by simp [bits_Div64.l1] at h, fun _ _ _ _ _ _ _ _ _ _ r h => by simp [bits_Div64.j4] at h, fun _ _ _ _ _ _ _ _ _ r h => by simp [bits_Div64.l0] at h, fun _ _ _ _ _ _ _ _ _ _ r h => by simp [bits_Div64.j1] at h⟩
 | k + 1 => by
  obtain ⟨ih0, ih1, ih2, ih3, ih4⟩ := bits_Div64.mono_l k
  refine ⟨?_, ?_, ?_, ?_, ?_⟩
  ·intro y0 y1 y2 y3 y4 y5 y6 y7
   unfold bits_Div64.j2
   repeat' first
   | (with_reducible exact ih0 _ _ _ _ _ _ _ _)
   | (with_reducible exact ih1 _ _ _ _ _ _ _ _ _)
   | (with_reducible exact ih2 _ _ _ _ _ _ _ _ _ _)
   | (with_reducible exact ih3 _ _ _ _ _ _ _ _ _)
   | (with_reducible exact ih4 _ _ _ _ _ _ _ _ _ _)
   | (with_reducible exact bits_LeadingZeros64.mono _ _)
   | (with_reducible exact LeO.refl _)
   | (with_reducible exact LeO.none _)
   | (with_reducible refine LeO.ite ?_ ?_)
   | (with_reducible refine LeO.bind ?_ (fun _ => ?_))
   | exact ih0 _ _ _ _ _ _ _ _
   | exact ih1 _ _ _ _ _ _ _ _ _
   | exact ih2 _ _ _ _ _ _ _ _ _ _
   | exact ih3 _ _ _ _ _ _ _ _ _
   | exact ih4 _ _ _ _ _ _ _ _ _ _
   | exact bits_LeadingZeros64.mono _ _
   | exact LeO.none _
   | refine LeO.ite ?_ ?_
   | refine LeO.bind ?_ (fun _ => ?_)
  ·intro y0 y1 y2 y3 y4 y5 y6 y7 y8
   unfold bits_Div64.l1
   repeat' first
   | (with_reducible exact ih0 _ _ _ _ _ _ _ _)
   | (with_reducible exact ih1 _ _ _ _ _ _ _ _ _)
   | (with_reducible exact ih2 _ _ _ _ _ _ _ _ _ _)
   | (with_reducible exact ih3 _ _ _ _ _ _ _ _ _)
   | (with_reducible exact ih4 _ _ _ _ _ _ _ _ _ _)
   | (with_reducible exact bits_LeadingZeros64.mono _ _)
   | (with_reducible exact LeO.refl _)
   | (with_reducible exact LeO.none _)
   | (with_reducible refine LeO.ite ?_ ?_)
   | (with_reducible refine LeO.bind ?_ (fun _ => ?_))
   | exact ih0 _ _ _ _ _ _ _ _
   | exact ih1 _ _ _ _ _ _ _ _ _
   | exact ih2 _ _ _ _ _ _ _ _ _ _
   | exact ih3 _ _ _ _ _ _ _ _ _
   | exact ih4 _ _ _ _ _ _ _ _ _ _
   | exact bits_LeadingZeros64.mono _ _
   | exact LeO.none _
   | refine LeO.ite ?_ ?_
   | refine LeO.bind ?_ (fun _ => ?_)
  ·intro y0 y1 y2 y3 y4 y5 y6 y7 y8 y9
   unfold bits_Div64.j4
   repeat' first
   | (with_reducible exact ih0 _ _ _ _ _ _ _ _)
   | (with_reducible exact ih1 _ _ _ _ _ _ _ _ _)
   | (with_reducible exact ih2 _ _ _ _ _ _ _ _ _ _)
   | (with_reducible exact ih3 _ _ _ _ _ _ _ _ _)
   | (with_reducible exact ih4 _ _ _ _ _ _ _ _ _ _)
   | (with_reducible exact bits_LeadingZeros64.mono _ _)
   | (with_reducible exact LeO.refl _)
   | (with_reducible exact LeO.none _)
   | (with_reducible refine LeO.ite ?_ ?_)
   | (with_reducible refine LeO.bind ?_ (fun _ => ?_))
   | exact ih0 _ _ _ _ _ _ _ _
   | exact ih1 _ _ _ _ _ _ _ _ _
   | exact ih2 _ _ _ _ _ _ _ _ _ _
   | exact ih3 _ _ _ _ _ _ _ _ _
   | exact ih4 _ _ _ _ _ _ _ _ _ _
   | exact bits_LeadingZeros64.mono _ _
   | exact LeO.none _
   | refine LeO.ite ?_ ?_
   | refine LeO.bind ?_ (fun _ => ?_)
  ·intro y0 y1 y2 y3 y4 y5 y6 y7 y8
   unfold bits_Div64.l0
   repeat' first
   | (with_reducible exact ih0 _ _ _ _ _ _ _ _)
   | (with_reducible exact ih1 _ _ _ _ _ _ _ _ _)
   | (with_reducible exact ih2 _ _ _ _ _ _ _ _ _ _)
   | (with_reducible exact ih3 _ _ _ _ _ _ _ _ _)
   | (with_reducible exact ih4 _ _ _ _ _ _ _ _ _ _)
   | (with_reducible exact bits_LeadingZeros64.mono _ _)
   | (with_reducible exact LeO.refl _)
   | (with_reducible exact LeO.none _)
   | (with_reducible refine LeO.ite ?_ ?_)
   | (with_reducible refine LeO.bind ?_ (fun _ => ?_))
   | exact ih0 _ _ _ _ _ _ _ _
   | exact ih1 _ _ _ _ _ _ _ _ _
   | exact ih2 _ _ _ _ _ _ _ _ _ _
   | exact ih3 _ _ _ _ _ _ _ _ _
   | exact ih4 _ _ _ _ _ _ _ _ _ _
   | exact bits_LeadingZeros64.mono _ _
   | exact LeO.none _
   | refine LeO.ite ?_ ?_
   | refine LeO.bind ?_ (fun _ => ?_)
  ·intro y0 y1 y2 y3 y4 y5 y6 y7 y8 y9
   unfold bits_Div64.j1
   repeat' first
   | (with_reducible exact ih0 _ _ _ _ _ _ _ _)
   | (with_reducible exact ih1 _ _ _ _ _ _ _ _ _)
   | (with_reducible exact ih2 _ _ _ _ _ _ _ _ _ _)
   | (with_reducible exact ih3 _ _ _ _ _ _ _ _ _)
   | (with_reducible exact ih4 _ _ _ _ _ _ _ _ _ _)
   | (with_reducible exact bits_LeadingZeros64.mono _ _)
   | (with_reducible exact LeO.refl _)
   | (with_reducible exact LeO.none _)
   | (with_reducible refine LeO.ite ?_ ?_)
   | (with_reducible refine LeO.bind ?_ (fun _ => ?_))
   | exact ih0 _ _ _ _ _ _ _ _
   | exact ih1 _ _ _ _ _ _ _ _ _
   | exact ih2 _ _ _ _ _ _ _ _ _ _
   | exact ih3 _ _ _ _ _ _ _ _ _
   | exact ih4 _ _ _ _ _ _ _ _ _ _
   | exact bits_LeadingZeros64.mono _ _
   | exact LeO.none _
   | refine LeO.ite ?_ ?_
   | refine LeO.bind ?_ (fun _ => ?_)
theorem bits_Div64.mono : ∀ a0 a1 a2 k, LeO (bits_Div64.f k a0 a1 a2) (bits_Div64.f (k + 1) a0 a1 a2) := by
 intro a0 a1 a2 k
 obtain ⟨ih0, ih1, ih2, ih3, ih4⟩ := bits_Div64.mono_l k
 unfold bits_Div64.f
 repeat' first
   | (with_reducible exact ih0 _ _ _ _ _ _ _ _)
   | (with_reducible exact ih1 _ _ _ _ _ _ _ _ _)
   | (with_reducible exact ih2 _ _ _ _ _ _ _ _ _ _)
   | (with_reducible exact ih3 _ _ _ _ _ _ _ _ _)
   | (with_reducible exact ih4 _ _ _ _ _ _ _ _ _ _)
   | (with_reducible exact bits_LeadingZeros64.mono _ _)
   | (with_reducible exact LeO.refl _)
   | (with_reducible exact LeO.none _)
   | (with_reducible refine LeO.ite ?_ ?_)
   | (with_reducible refine LeO.bind ?_ (fun _ => ?_))
   | exact ih0 _ _ _ _ _ _ _ _
   | exact ih1 _ _ _ _ _ _ _ _ _
   | exact ih2 _ _ _ _ _ _ _ _ _ _
   | exact ih3 _ _ _ _ _ _ _ _ _
   | exact ih4 _ _ _ _ _ _ _ _ _ _
   | exact bits_LeadingZeros64.mono _ _
   | exact LeO.none _
   | refine LeO.ite ?_ ?_
   | refine LeO.bind ?_ (fun _ => ?_)
set_option maxHeartbeats 8000000 in
set_option maxRecDepth 100000 in
theorem bits_Div64.calls (k : Nat) (a0 : Int) (a1 : Int) (a2 : Int) (r1 : Int) (r2 : Int) (w : World) (h : bits_Div64.f k a0 a1 a2 = some (r1, r2)) :
  Calls Try.prog 74 #[.int .u64 a0, .int .u64 a1, .int .u64 a2] w fun e w' => e = .returned (.tuple #[.int .u64 r1, .int .u64 r2]) ∧ Drawn0 w w' := by
 have H : (if a2 = 0 then (none) else (if a2 ≤ a0 then (none) else (if a0 = 0 then (some (IntKind.u64.wrap (Int.tdiv a1 a2), Int.tmod a1 a2)) else ((bits_LeadingZeros64.f k a2).bind fun t207 => (if 0 ≤ (IntKind.u64.wrap (t207)) then (if 0 ≤ (IntKind.u64.wrap (64 - (IntKind.u64.wrap (t207)))) then (if ((shl .u64 a2 (IntKind.u64.wrap (t207))) / 4294967296) = 0 then (none) else (bits_Div64.l0 k (shl .u64 a2 (IntKind.u64.wrap (t207))) (IntKind.u64.wrap (t207)) ((shl .u64 a2 (IntKind.u64.wrap (t207))) / 4294967296) (Go.bits .and .u64 (shl .u64 a2 (IntKind.u64.wrap (t207))) 4294967295) (Go.bits .or .u64 (shl .u64 a0 (IntKind.u64.wrap (t207))) (shr .u64 a1 (IntKind.u64.wrap (64 - (IntKind.u64.wrap (t207)))))) ((shl .u64 a1 (IntKind.u64.wrap (t207))) / 4294967296) (Go.bits .and .u64 (shl .u64 a1 (IntKind.u64.wrap (t207))) 4294967295) (IntKind.u64.wrap (Int.tdiv (Go.bits .or .u64 (shl .u64 a0 (IntKind.u64.wrap (t207))) (shr .u64 a1 (IntKind.u64.wrap (64 - (IntKind.u64.wrap (t207)))))) ((shl .u64 a2 (IntKind.u64.wrap (t207))) / 4294967296))) (IntKind.u64.wrap ((Go.bits .or .u64 (shl .u64 a0 (IntKind.u64.wrap (t207))) (shr .u64 a1 (IntKind.u64.wrap (64 - (IntKind.u64.wrap (t207)))))) - (IntKind.u64.wrap ((IntKind.u64.wrap (Int.tdiv (Go.bits .or .u64 (shl .u64 a0 (IntKind.u64.wrap (t207))) (shr .u64 a1 (IntKind.u64.wrap (64 - (IntKind.u64.wrap (t207)))))) ((shl .u64 a2 (IntKind.u64.wrap (t207))) / 4294967296))) * ((shl .u64 a2 (IntKind.u64.wrap (t207))) / 4294967296))))))) else (none)) else (none)))))) = some (r1, r2) := h
 clear h
 by_cases c4 : a2 = 0
 ·rw [if_pos c4] at H
  exact absurd H (by simp)
 rw [if_neg c4] at H
 have G6 : (a2 == 0) = false := beq_eq_false_iff_ne.mpr c4
 have G7 : (a2 != 0) = true := bne_iff_ne.mpr c4
 by_cases c5 : a2 ≤ a0
 ·rw [if_pos c5] at H
  exact absurd H (by simp)
 rw [if_neg c5] at H
 have G8 : decide (a2 ≤ a0) = false := decide_eq_false c5
 clear c5
 by_cases c6 : a0 = 0
 ·rw [if_pos c6] at H
  have G3 : (a0 == 0) = true := beq_iff_eq.mpr c6
  have G4 : (a0 != 0) = false := bne_eq_false_iff_eq.mpr c6
  clear c6
  simp only [Option.some.injEq, Prod.mk.injEq] at H
  obtain ⟨rfl, rfl⟩ := H
  go_enter Try.func74, Try.ntmps74
  go_wp2
  repeat (go_quiet (fail); try go_wp2)
  go_ret2
  exact ⟨by first | rfl | (simp; done) | (simp [*]; done), by repeat (first | exact Drawn0.refl _ | apply Drawn0.step)⟩
 rw [if_neg c6] at H
 have G3 : (a0 == 0) = false := beq_eq_false_iff_ne.mpr c6
 have G4 : (a0 != 0) = true := bne_iff_ne.mpr c6
 replace H := Option.bind_eq_some_iff.mp H
 obtain ⟨t207, A70, H⟩ := H
 try dsimp only at H
 have A7 := Aside0.mk A70
 clear A70
 obtain ⟨E1, G1⟩ : ∃ j_ : Int, (IntKind.u64.wrap (t207)) = j_ := ⟨_, rfl⟩
 replace H : (if 0 ≤ (E1) then (if 0 ≤ (IntKind.u64.wrap (64 - (E1))) then (if ((shl .u64 a2 (E1)) / 4294967296) = 0 then (none) else (bits_Div64.l0 k (shl .u64 a2 (E1)) E1 ((shl .u64 a2 (E1)) / 4294967296) (Go.bits .and .u64 (shl .u64 a2 (E1)) 4294967295) (Go.bits .or .u64 (shl .u64 a0 (E1)) (shr .u64 a1 (IntKind.u64.wrap (64 - (E1))))) ((shl .u64 a1 (E1)) / 4294967296) (Go.bits .and .u64 (shl .u64 a1 (E1)) 4294967295) (IntKind.u64.wrap (Int.tdiv (Go.bits .or .u64 (shl .u64 a0 (E1)) (shr .u64 a1 (IntKind.u64.wrap (64 - (E1))))) ((shl .u64 a2 (E1)) / 4294967296))) (IntKind.u64.wrap ((Go.bits .or .u64 (shl .u64 a0 (E1)) (shr .u64 a1 (IntKind.u64.wrap (64 - (E1))))) - (IntKind.u64.wrap ((IntKind.u64.wrap (Int.tdiv (Go.bits .or .u64 (shl .u64 a0 (E1)) (shr .u64 a1 (IntKind.u64.wrap (64 - (E1))))) ((shl .u64 a2 (E1)) / 4294967296))) * ((shl .u64 a2 (E1)) / 4294967296))))))) else (none)) else (none)) = some (r1, r2) := by first | (rw [G1] at H; exact H) | (simp only [G1] at H ⊢; exact H)
 (try rw [G1] at A7)
 by_cases c9 : 0 ≤ (E1)
 rotate_left
 ·rw [if_neg c9] at H
  exact absurd H (by simp)

 rw [if_pos c9] at H
 have G9 := eq_true c9
 have V0 : decide (0 ≤ (E1)) = true := decide_eq_true c9
 clear c9
 obtain ⟨E0, E5⟩ : ∃ j_ : Int, (shl .u64 a2 (E1)) = j_ := ⟨_, rfl⟩
 replace H : (if 0 ≤ (IntKind.u64.wrap (64 - (E1))) then (if ((E0) / 4294967296) = 0 then (none) else (bits_Div64.l0 k E0 E1 ((E0) / 4294967296) (Go.bits .and .u64 (E0) 4294967295) (Go.bits .or .u64 (shl .u64 a0 (E1)) (shr .u64 a1 (IntKind.u64.wrap (64 - (E1))))) ((shl .u64 a1 (E1)) / 4294967296) (Go.bits .and .u64 (shl .u64 a1 (E1)) 4294967295) (IntKind.u64.wrap (Int.tdiv (Go.bits .or .u64 (shl .u64 a0 (E1)) (shr .u64 a1 (IntKind.u64.wrap (64 - (E1))))) ((E0) / 4294967296))) (IntKind.u64.wrap ((Go.bits .or .u64 (shl .u64 a0 (E1)) (shr .u64 a1 (IntKind.u64.wrap (64 - (E1))))) - (IntKind.u64.wrap ((IntKind.u64.wrap (Int.tdiv (Go.bits .or .u64 (shl .u64 a0 (E1)) (shr .u64 a1 (IntKind.u64.wrap (64 - (E1))))) ((E0) / 4294967296))) * ((E0) / 4294967296))))))) else (none)) = some (r1, r2) := by first | (rw [E5] at H; exact H) | (simp only [E5] at H ⊢; exact H)
 (try rw [E5] at A7)
 have hji10_ : (IntKind.u64.wrap (a2 * 2 ^ min (E1).toNat 64)) = E0 := E5
 have hji10z : (E1) ≤ 64 → (IntKind.u64.wrap (a2 * 2 ^ (E1).toNat)) = E0 := shl_small E5
 have V1 := eq_true (of_decide_eq_true (by first | (with_reducible assumption) | assumption) : 0 ≤ (E1))
 obtain ⟨E2, E6⟩ : ∃ j_ : Int, (shl .u64 a0 (E1)) = j_ := ⟨_, rfl⟩
 replace H : (if 0 ≤ (IntKind.u64.wrap (64 - (E1))) then (if ((E0) / 4294967296) = 0 then (none) else (bits_Div64.l0 k E0 E1 ((E0) / 4294967296) (Go.bits .and .u64 (E0) 4294967295) (Go.bits .or .u64 (E2) (shr .u64 a1 (IntKind.u64.wrap (64 - (E1))))) ((shl .u64 a1 (E1)) / 4294967296) (Go.bits .and .u64 (shl .u64 a1 (E1)) 4294967295) (IntKind.u64.wrap (Int.tdiv (Go.bits .or .u64 (E2) (shr .u64 a1 (IntKind.u64.wrap (64 - (E1))))) ((E0) / 4294967296))) (IntKind.u64.wrap ((Go.bits .or .u64 (E2) (shr .u64 a1 (IntKind.u64.wrap (64 - (E1))))) - (IntKind.u64.wrap ((IntKind.u64.wrap (Int.tdiv (Go.bits .or .u64 (E2) (shr .u64 a1 (IntKind.u64.wrap (64 - (E1))))) ((E0) / 4294967296))) * ((E0) / 4294967296))))))) else (none)) = some (r1, r2) := by first | (rw [E6] at H; exact H) | (simp only [E6] at H ⊢; exact H)
 (try rw [E6] at A7)
 have hji12_ : (IntKind.u64.wrap (a0 * 2 ^ min (E1).toNat 64)) = E2 := E6
 have hji12z : (E1) ≤ 64 → (IntKind.u64.wrap (a0 * 2 ^ (E1).toNat)) = E2 := shl_small E6
 obtain ⟨E9, G2⟩ : ∃ j_ : Int, (IntKind.u64.wrap (64 - (E1))) = j_ := ⟨_, rfl⟩
 replace H : (if 0 ≤ (E9) then (if ((E0) / 4294967296) = 0 then (none) else (bits_Div64.l0 k E0 E1 ((E0) / 4294967296) (Go.bits .and .u64 (E0) 4294967295) (Go.bits .or .u64 (E2) (shr .u64 a1 (E9))) ((shl .u64 a1 (E1)) / 4294967296) (Go.bits .and .u64 (shl .u64 a1 (E1)) 4294967295) (IntKind.u64.wrap (Int.tdiv (Go.bits .or .u64 (E2) (shr .u64 a1 (E9))) ((E0) / 4294967296))) (IntKind.u64.wrap ((Go.bits .or .u64 (E2) (shr .u64 a1 (E9))) - (IntKind.u64.wrap ((IntKind.u64.wrap (Int.tdiv (Go.bits .or .u64 (E2) (shr .u64 a1 (E9))) ((E0) / 4294967296))) * ((E0) / 4294967296))))))) else (none)) = some (r1, r2) := by first | (rw [G2] at H; exact H) | (simp only [G2] at H ⊢; exact H)
 (try rw [G2] at A7)
 by_cases c14 : 0 ≤ (E9)
 rotate_left
 ·rw [if_neg c14] at H
  exact absurd H (by simp)
 rw [if_pos c14] at H
 have V2 := eq_true c14
 have V3 : decide (0 ≤ (E9)) = true := decide_eq_true c14
 clear c14
 obtain ⟨E4, E7⟩ : ∃ j_ : Int, (shr .u64 a1 (E9)) = j_ := ⟨_, rfl⟩
 replace H : (if ((E0) / 4294967296) = 0 then (none) else (bits_Div64.l0 k E0 E1 ((E0) / 4294967296) (Go.bits .and .u64 (E0) 4294967295) (Go.bits .or .u64 (E2) (E4)) ((shl .u64 a1 (E1)) / 4294967296) (Go.bits .and .u64 (shl .u64 a1 (E1)) 4294967295) (IntKind.u64.wrap (Int.tdiv (Go.bits .or .u64 (E2) (E4)) ((E0) / 4294967296))) (IntKind.u64.wrap ((Go.bits .or .u64 (E2) (E4)) - (IntKind.u64.wrap ((IntKind.u64.wrap (Int.tdiv (Go.bits .or .u64 (E2) (E4)) ((E0) / 4294967296))) * ((E0) / 4294967296))))))) = some (r1, r2) := by first | (rw [E7] at H; exact H) | (simp only [E7] at H ⊢; exact H)
 (try rw [E7] at A7)
 have hji15_ : (a1 / 2 ^ min (E9).toNat 64) = E4 := E7
 have hji15z : (E9) ≤ 64 → (a1 / 2 ^ (E9).toNat) = E4 := shr_small E7
 have V4 := eq_true (of_decide_eq_true (by first | (with_reducible assumption) | assumption) : 0 ≤ (E1))
 obtain ⟨E3, E8⟩ : ∃ j_ : Int, (shl .u64 a1 (E1)) = j_ := ⟨_, rfl⟩
 replace H : (if ((E0) / 4294967296) = 0 then (none) else (bits_Div64.l0 k E0 E1 ((E0) / 4294967296) (Go.bits .and .u64 (E0) 4294967295) (Go.bits .or .u64 (E2) (E4)) ((E3) / 4294967296) (Go.bits .and .u64 (E3) 4294967295) (IntKind.u64.wrap (Int.tdiv (Go.bits .or .u64 (E2) (E4)) ((E0) / 4294967296))) (IntKind.u64.wrap ((Go.bits .or .u64 (E2) (E4)) - (IntKind.u64.wrap ((IntKind.u64.wrap (Int.tdiv (Go.bits .or .u64 (E2) (E4)) ((E0) / 4294967296))) * ((E0) / 4294967296))))))) = some (r1, r2) := by first | (rw [E8] at H; exact H) | (simp only [E8] at H ⊢; exact H)
 (try rw [E8] at A7)
 have hji17_ : (IntKind.u64.wrap (a1 * 2 ^ min (E1).toNat 64)) = E3 := E8
 have hji17z : (E1) ≤ 64 → (IntKind.u64.wrap (a1 * 2 ^ (E1).toNat)) = E3 := shl_small E8
 by_cases c18 : ((E0) / 4294967296) = 0
 ·rw [if_pos c18] at H
  exact absurd H (by simp)
 rw [if_neg c18] at H
 have V5 : (((E0) / 4294967296) == 0) = false := beq_eq_false_iff_ne.mpr c18
 have V6 : (((E0) / 4294967296) != 0) = true := bne_iff_ne.mpr c18
 have HC19 := Aside0.mk H
 clear H
 go_enter Try.func74, Try.ntmps74
 go_upto_block 0 with (first | (go_at_call 81; (with_reducible refine (bits_LeadingZeros64.calls k a2 t207 _ A7.out).mono ?_); rintro e w' ⟨rfl, ⟨nd, rfl⟩⟩; (try first | exact ⟨rfl, _, World.drewN_drewN _ _ _⟩ | exact ⟨rfl, _, Eq.trans (World.drewN_drewN _ _ _) (congrArg (World.drewN _) (Nat.add_assoc _ _ _))⟩)))
 repeat (go_quiet (first | (go_at_call 81; (with_reducible refine (bits_LeadingZeros64.calls k a2 t207 _ A7.out).mono ?_); rintro e w' ⟨rfl, ⟨nd, rfl⟩⟩; (try first | exact ⟨rfl, _, World.drewN_drewN _ _ _⟩ | exact ⟨rfl, _, Eq.trans (World.drewN_drewN _ _ _) (congrArg (World.drewN _) (Nat.add_assoc _ _ _))⟩))); go_upto_block 0 with (first | (go_at_call 81; (with_reducible refine (bits_LeadingZeros64.calls k a2 t207 _ A7.out).mono ?_); rintro e w' ⟨rfl, ⟨nd, rfl⟩⟩; (try first | exact ⟨rfl, _, World.drewN_drewN _ _ _⟩ | exact ⟨rfl, _, Eq.trans (World.drewN_drewN _ _ _) (congrArg (World.drewN _) (Nat.add_assoc _ _ _))⟩))))
 (try simp only [Act.put, sA, sB, sC])
 go_cut [15] (fun v15 wc => ∃ (kq : Nat) (x15_18 : Int), v15 = .int .u64 x15_18 ∧ Aside0 (bits_Div64.j2 kq E0 E1 ((E0) / 4294967296) (Go.bits .and .u64 (E0) 4294967295) (Go.bits .or .u64 (E2) (E4)) ((E3) / 4294967296) (Go.bits .and .u64 (E3) 4294967295) x15_18 = some (r1, r2)) ∧ Aside0 (kq ≤ k) ∧ Drawn0 w wc)
 case first =>
  have H := HC19.out
  clear HC19
  have H' := Aside0.mk H
  clear H
  go_wp2
  repeat (go_quiet (fail); try go_wp2)
  go_loopg [15, 16] k (fun kq v15 v16 w' => ∃ (x15_1 : Int) (x16_1 : Int), v15 = .int .u64 x15_1 ∧ v16 = .int .u64 x16_1 ∧ Aside0 (bits_Div64.l0 kq E0 E1 ((E0) / 4294967296) (Go.bits .and .u64 (E0) 4294967295) (Go.bits .or .u64 (E2) (E4)) ((E3) / 4294967296) (Go.bits .and .u64 (E3) 4294967295) x15_1 x16_1 = some (r1, r2)) ∧ Aside0 (kq ≤ k) ∧ Drawn0 w w')
  case atStart => exact ⟨(IntKind.u64.wrap (Int.tdiv (Go.bits .or .u64 (E2) (E4)) ((E0) / 4294967296))), (IntKind.u64.wrap ((Go.bits .or .u64 (E2) (E4)) - (IntKind.u64.wrap ((IntKind.u64.wrap (Int.tdiv (Go.bits .or .u64 (E2) (E4)) ((E0) / 4294967296))) * ((E0) / 4294967296))))), (by first | rfl | (simp; done) | (simp only [← E5, ← E6, ← E7] <;> (first | rfl | simp)) | (simp [*]; done)), (by first | rfl | (simp; done) | (simp only [← E5, ← E6, ← E7] <;> (first | rfl | simp)) | (simp [*]; done)), H', ⟨Nat.le_refl _⟩, by repeat (first | exact Drawn0.refl _ | apply Drawn0.step)⟩
  case round =>
   clear H'
   try clear c1
   try clear p2
   try clear c4
   try clear G6
   try clear G7
   try clear c5
   try clear G8
   try clear c6
   try clear G3
   try clear G4
   try clear c7
   try clear c9
   try clear G9
   try clear V0
   try clear c11
   try clear V1
   try clear c14
   try clear V2
   try clear V3
   try clear c16
   try clear V4
   try clear c18
   try clear V5
   try clear V6
   obtain ⟨x15_1, x16_1, rfl, rfl, HA, HK1, ⟨m1, rfl⟩⟩ := hrel
   cases gk with
   | zero => exact absurd HA.out (by simp [bits_Div64.l0])
   | succ k1 =>
    have H := HA.out
    clear HA
    simp only [bits_Div64.l0] at H
    have HC20 := Aside0.mk H
    clear H
    go_upto_region 17 with (fail)
    repeat (go_quiet (fail); go_upto_region 17 with (fail))
    go_cut [78] (fun v78 wc => ∃ (kq : Nat) (x78_19 : Bool), v78 = .bool x78_19 ∧ Aside0 (bits_Div64.j1 kq E0 E1 ((E0) / 4294967296) (Go.bits .and .u64 (E0) 4294967295) (Go.bits .or .u64 (E2) (E4)) ((E3) / 4294967296) (Go.bits .and .u64 (E3) 4294967295) x15_1 x16_1 x78_19 = some (r1, r2)) ∧ Aside0 (kq ≤ k1) ∧ Drawn0 w wc)
    case first =>
     have H := HC20.out
     clear HC20
     by_cases c21 : x15_1 ≥ 4294967296
     ·rw [if_pos c21] at H
      have G0 : decide (4294967296 ≤ x15_1) = true := decide_eq_true c21
      clear c21
      (first | rw [G0] | (simp only [i64_w, i32_w]; rw [G0]) | skip)
      have H' := Aside0.mk H
      clear H
      go_wp2
      repeat (go_quiet (fail); try go_wp2)
      go_meet
      case rel => exact ⟨_, (true), (by first | rfl | (simp; done) | (simp [*]; done)), H', ⟨by have := HK1.out; first | omega | exact Nat.le_refl _⟩, by repeat (first | exact Drawn0.refl _ | apply Drawn0.step)⟩
     rw [if_neg c21] at H
     have G0 : decide (4294967296 ≤ x15_1) = false := decide_eq_false c21
     clear c21
     (first | rw [G0] | (simp only [i64_w, i32_w]; rw [G0]) | skip)
     have H' := Aside0.mk H
     clear H
     go_wp2
     repeat (go_quiet (fail); try go_wp2)
     go_meet
     case rel => exact ⟨_, (decide ((IntKind.u64.wrap (x15_1 * (Go.bits .and .u64 (E0) 4294967295))) > (IntKind.u64.wrap ((IntKind.u64.wrap (4294967296 * x16_1)) + ((E3) / 4294967296))))), (by first | rfl | (simp; done) | (simp only [← E5, ← E8] <;> (first | rfl | simp)) | (simp [*]; done)), H', ⟨by have := HK1.out; first | omega | exact Nat.le_refl _⟩, by repeat (first | exact Drawn0.refl _ | apply Drawn0.step)⟩
    case rest =>
     clear HC20
     try clear c1
     try clear c2
     try clear p2
     try clear c4
     try clear G6
     try clear G7
     try clear c5
     try clear G8
     try clear c6
     try clear G3
     try clear G4
     try clear c7
     try clear c9
     try clear G9
     try clear V0
     try clear c11
     try clear V1
     try clear c14
     try clear V2
     try clear V3
     try clear c16
     try clear V4
     try clear c18
     try clear V5
     try clear V6
     try clear c21
     try clear G0
     try clear p2
     obtain ⟨kq, x78_19, rfl, HA, HJ19, ⟨mc19, rfl⟩⟩ := hcut
     cases kq with
     | zero => exact absurd HA.out (by simp [bits_Div64.j1])
     | succ kj19 =>
      have H := HA.out
      clear HA
      simp only [bits_Div64.j1] at H
      by_cases c22 : x78_19 = true
      rotate_left
      ·replace c22 := Bool.eq_false_iff.mpr c22
       subst c22
       rw [if_neg (show ¬ (false = true) by decide)] at H
       have H' := Aside0.mk H
       clear H
       go_wp2
       repeat (go_quiet (fail); try go_wp2)
       go_meet
       case rel => exact ⟨_, (x15_1), (by first | rfl | (simp; done) | (simp [*]; done)), H', ⟨by have := HK1.out; have := HJ19.out; first | omega | exact Nat.le_refl _⟩, by repeat (first | exact Drawn0.refl _ | apply Drawn0.step)⟩
      subst c22
      rw [if_pos rfl] at H
      by_cases c23 : (IntKind.u64.wrap (x16_1 + ((E0) / 4294967296))) ≥ 4294967296
      ·rw [if_pos c23] at H
       have V9 : decide (4294967296 ≤ (IntKind.u64.wrap (x16_1 + ((E0) / 4294967296)))) = true := decide_eq_true c23
       clear c23
       have H' := Aside0.mk H
       clear H
       go_wp2
       repeat (go_quiet (fail); try go_wp2)
       go_meet
       case rel => exact ⟨_, (IntKind.u64.wrap (x15_1 - 1)), (by first | rfl | (simp; done) | (simp [*]; done)), H', ⟨by have := HK1.out; have := HJ19.out; first | omega | exact Nat.le_refl _⟩, by repeat (first | exact Drawn0.refl _ | apply Drawn0.step)⟩
      rw [if_neg c23] at H
      have V9 : decide (4294967296 ≤ (IntKind.u64.wrap (x16_1 + ((E0) / 4294967296)))) = false := decide_eq_false c23
      clear c23
      have H' := Aside0.mk H
      clear H
      go_wp2
      repeat (go_quiet (fail); try go_wp2)
      first | go_roundg kj19 | ((try subst E8); (try subst E7); (try subst G2); (try subst E6); (try subst E5); (try subst G1); go_roundg kj19)
      case measure => have := HK1.out; have := HJ19.out; omega
      case rel => first | (exact ⟨(IntKind.u64.wrap (x15_1 - 1)), (IntKind.u64.wrap (x16_1 + ((E0) / 4294967296))), (by first | rfl | (simp; done) | (simp [*]; done)), (by first | rfl | (simp; done) | (simp only [← E5] <;> (first | rfl | simp)) | (simp [*]; done)), H', ⟨by have := HK1.out; have := HJ19.out; omega⟩, by repeat (first | exact Drawn0.refl _ | apply Drawn0.step)⟩) | (exact ⟨(IntKind.u64.wrap (x15_1 - 1)), (IntKind.u64.wrap (x16_1 + (((shl .u64 a2 ((IntKind.u64.wrap (t207))))) / 4294967296))), (by first | rfl | (simp; done) | (simp [*]; done)), (by first | rfl | (simp; done) | (simp only [← E5] <;> (first | rfl | simp)) | (simp [*]; done)), H', ⟨by have := HK1.out; have := HJ19.out; omega⟩, by repeat (first | exact Drawn0.refl _ | apply Drawn0.step)⟩)
 case rest =>
  clear HC19
  try clear c1
  try clear c2
  try clear p2
  try clear c4
  try clear G6
  try clear G7
  try clear c5
  try clear G8
  try clear c6
  try clear G3
  try clear G4
  try clear c7
  try clear c9
  try clear G9
  try clear V0
  try clear c11
  try clear V1
  try clear c14
  try clear V2
  try clear V3
  try clear c16
  try clear V4
  try clear c18
  try clear V5
  try clear V6
  try clear c19
  try clear c21
  try clear G0
  try clear c22
  try clear c23
  try clear V9
  try clear p2
  obtain ⟨kq, x15_18, rfl, HA, HJ18, ⟨mc18, rfl⟩⟩ := hcut
  cases kq with
  | zero => exact absurd HA.out (by simp [bits_Div64.j2])
  | succ kj18 =>
   have H := HA.out
   clear HA
   simp only [bits_Div64.j2] at H
   by_cases c24 : ((E0) / 4294967296) = 0
   ·rw [if_pos c24] at H
    exact absurd H (by simp)
   rw [if_neg c24] at H
   have Y2 : (((E0) / 4294967296) == 0) = false := beq_eq_false_iff_ne.mpr c24
   have Y3 : (((E0) / 4294967296) != 0) = true := bne_iff_ne.mpr c24
   have H' := Aside0.mk H
   clear H
   go_wp2
   repeat (go_quiet (fail); try go_wp2)
   go_loopg [16, 18] kj18 (fun kq v16 v18 w' => ∃ (x16_2 : Int) (x18_2 : Int), v16 = .int .u64 x16_2 ∧ v18 = .int .u64 x18_2 ∧ Aside0 (bits_Div64.l1 kq E0 E1 ((E0) / 4294967296) (Go.bits .and .u64 (E0) 4294967295) (Go.bits .and .u64 (E3) 4294967295) x15_18 x16_2 (IntKind.u64.wrap ((IntKind.u64.wrap ((IntKind.u64.wrap ((Go.bits .or .u64 (E2) (E4)) * 4294967296)) + ((E3) / 4294967296))) - (IntKind.u64.wrap (x15_18 * E0)))) x18_2 = some (r1, r2)) ∧ Aside0 (kq ≤ kj18) ∧ Drawn0 w w')
   case atStart => exact ⟨(IntKind.u64.wrap ((IntKind.u64.wrap ((IntKind.u64.wrap ((IntKind.u64.wrap ((Go.bits .or .u64 (E2) (E4)) * 4294967296)) + ((E3) / 4294967296))) - (IntKind.u64.wrap (x15_18 * E0)))) - (IntKind.u64.wrap ((IntKind.u64.wrap (Int.tdiv (IntKind.u64.wrap ((IntKind.u64.wrap ((IntKind.u64.wrap ((Go.bits .or .u64 (E2) (E4)) * 4294967296)) + ((E3) / 4294967296))) - (IntKind.u64.wrap (x15_18 * E0)))) ((E0) / 4294967296))) * ((E0) / 4294967296))))), (IntKind.u64.wrap (Int.tdiv (IntKind.u64.wrap ((IntKind.u64.wrap ((IntKind.u64.wrap ((Go.bits .or .u64 (E2) (E4)) * 4294967296)) + ((E3) / 4294967296))) - (IntKind.u64.wrap (x15_18 * E0)))) ((E0) / 4294967296))), (by first | rfl | (simp; done) | (simp only [← E5, ← E6, ← E7, ← E8] <;> (first | rfl | simp)) | (simp [*]; done)), (by first | rfl | (simp; done) | (simp only [← E5, ← E6, ← E7, ← E8] <;> (first | rfl | simp)) | (simp [*]; done)), H', ⟨Nat.le_refl _⟩, by repeat (first | exact Drawn0.refl _ | apply Drawn0.step)⟩
   case round =>
    clear H'
    try clear c1
    try clear c2
    try clear p2
    try clear c4
    try clear G6
    try clear G7
    try clear c5
    try clear G8
    try clear c6
    try clear G3
    try clear G4
    try clear c7
    try clear c9
    try clear G9
    try clear V0
    try clear c11
    try clear V1
    try clear c14
    try clear V2
    try clear V3
    try clear c16
    try clear V4
    try clear c18
    try clear V5
    try clear V6
    try clear c19
    try clear c21
    try clear G0
    try clear c22
    try clear c23
    try clear V9
    try clear c24
    try clear Y2
    try clear Y3
    try clear p2
    obtain ⟨x16_2, x18_2, rfl, rfl, HA, HK2, ⟨m2, rfl⟩⟩ := hrel
    cases gk with
    | zero => exact absurd HA.out (by simp [bits_Div64.l1])
    | succ k2 =>
     have H := HA.out
     clear HA
     simp only [bits_Div64.l1] at H
     have HC25 := Aside0.mk H
     clear H
     go_upto_region 24 with (fail)
     repeat (go_quiet (fail); go_upto_region 24 with (fail))
     go_cut [113] (fun v113 wc => ∃ (kq : Nat) (x113_24 : Bool), v113 = .bool x113_24 ∧ Aside0 (bits_Div64.j4 kq E0 E1 ((E0) / 4294967296) (Go.bits .and .u64 (E0) 4294967295) (Go.bits .and .u64 (E3) 4294967295) x15_18 x16_2 (IntKind.u64.wrap ((IntKind.u64.wrap ((IntKind.u64.wrap ((Go.bits .or .u64 (E2) (E4)) * 4294967296)) + ((E3) / 4294967296))) - (IntKind.u64.wrap (x15_18 * E0)))) x18_2 x113_24 = some (r1, r2)) ∧ Aside0 (kq ≤ k2) ∧ Drawn0 w wc)
     case first =>
      have H := HC25.out
      clear HC25
      by_cases c26 : x18_2 ≥ 4294967296
      ·rw [if_pos c26] at H
       have G5 : decide (4294967296 ≤ x18_2) = true := decide_eq_true c26
       clear c26
       (first | rw [G5] | (simp only [i64_w, i32_w]; rw [G5]) | skip)
       have H' := Aside0.mk H
       clear H
       go_wp2
       repeat (go_quiet (fail); try go_wp2)
       go_meet
       case rel => exact ⟨_, (true), (by first | rfl | (simp; done) | (simp [*]; done)), H', ⟨by have := HJ18.out; have := HK2.out; first | omega | exact Nat.le_refl _⟩, by repeat (first | exact Drawn0.refl _ | apply Drawn0.step)⟩
      rw [if_neg c26] at H
      have G5 : decide (4294967296 ≤ x18_2) = false := decide_eq_false c26
      clear c26
      (first | rw [G5] | (simp only [i64_w, i32_w]; rw [G5]) | skip)
      have H' := Aside0.mk H
      clear H
      go_wp2
      repeat (go_quiet (fail); try go_wp2)
      go_meet
      case rel => exact ⟨_, (decide ((IntKind.u64.wrap (x18_2 * (Go.bits .and .u64 (E0) 4294967295))) > (IntKind.u64.wrap ((IntKind.u64.wrap (4294967296 * x16_2)) + (Go.bits .and .u64 (E3) 4294967295))))), (by first | rfl | (simp; done) | (simp only [← E5, ← E8] <;> (first | rfl | simp)) | (simp [*]; done)), H', ⟨by have := HJ18.out; have := HK2.out; first | omega | exact Nat.le_refl _⟩, by repeat (first | exact Drawn0.refl _ | apply Drawn0.step)⟩
     case rest =>
      clear HC25
      try clear c1
      try clear c2
      try clear p2
      try clear c4
      try clear G6
      try clear G7
      try clear c5
      try clear G8
      try clear c6
      try clear G3
      try clear G4
      try clear c7
      try clear c9
      try clear G9
      try clear V0
      try clear c11
      try clear V1
      try clear c14
      try clear V2
      try clear V3
      try clear c16
      try clear V4
      try clear c18
      try clear V5
      try clear V6
      try clear c19
      try clear c21
      try clear G0
      try clear c22
      try clear c23
      try clear V9
      try clear c24
      try clear Y2
      try clear Y3
      try clear c26
      try clear G5
      try clear p2
      obtain ⟨kq, x113_24, rfl, HA, HJ24, ⟨mc24, rfl⟩⟩ := hcut
      cases kq with
      | zero => exact absurd HA.out (by simp [bits_Div64.j4])
      | succ kj24 =>
       have H := HA.out
       clear HA
       simp only [bits_Div64.j4] at H
       by_cases c27 : x113_24 = true
       rotate_left
       ·replace c27 := Bool.eq_false_iff.mpr c27
        subst c27
        rw [if_neg (show ¬ (false = true) by decide)] at H
        by_cases c31 : 0 ≤ E1
        ·rw [if_pos c31] at H
         have Y5 := eq_true c31
         have Y6 : decide (0 ≤ E1) = true := decide_eq_true c31
         clear c31
         obtain ⟨Y0, V7⟩ : ∃ j_ : Int, (shr .u64 (IntKind.u64.wrap ((IntKind.u64.wrap ((IntKind.u64.wrap ((IntKind.u64.wrap ((IntKind.u64.wrap ((IntKind.u64.wrap ((Go.bits .or .u64 (E2) (E4)) * 4294967296)) + ((E3) / 4294967296))) - (IntKind.u64.wrap (x15_18 * E0)))) * 4294967296)) + (Go.bits .and .u64 (E3) 4294967295))) - (IntKind.u64.wrap (x18_2 * E0)))) E1) = j_ := ⟨_, rfl⟩
         replace H : (some (IntKind.u64.wrap ((IntKind.u64.wrap (x15_18 * 4294967296)) + x18_2), Y0)) = some (r1, r2) := by first | (rw [V7] at H; exact H) | (simp only [V7] at H ⊢; exact H)
         have hji32_ : ((IntKind.u64.wrap ((IntKind.u64.wrap ((IntKind.u64.wrap ((IntKind.u64.wrap ((IntKind.u64.wrap ((IntKind.u64.wrap ((Go.bits .or .u64 (E2) (E4)) * 4294967296)) + ((E3) / 4294967296))) - (IntKind.u64.wrap (x15_18 * E0)))) * 4294967296)) + (Go.bits .and .u64 (E3) 4294967295))) - (IntKind.u64.wrap (x18_2 * E0)))) / 2 ^ min E1.toNat 64) = Y0 := V7
         have hji32z : E1 ≤ 64 → ((IntKind.u64.wrap ((IntKind.u64.wrap ((IntKind.u64.wrap ((IntKind.u64.wrap ((IntKind.u64.wrap ((IntKind.u64.wrap ((Go.bits .or .u64 (E2) (E4)) * 4294967296)) + ((E3) / 4294967296))) - (IntKind.u64.wrap (x15_18 * E0)))) * 4294967296)) + (Go.bits .and .u64 (E3) 4294967295))) - (IntKind.u64.wrap (x18_2 * E0)))) / 2 ^ E1.toNat) = Y0 := shr_small V7
         simp only [Option.some.injEq, Prod.mk.injEq] at H
         obtain ⟨rfl, rfl⟩ := H
         go_wp2
         repeat (go_quiet (fail); try go_wp2)
         go_ret2
         exact ⟨by first | rfl | (simp; done) | (simp only [← G1, ← E5, ← E6, ← G2, ← E7, ← E8, ← V7] <;> (first | rfl | simp)) | (simp [*]; done), by repeat (first | exact Drawn0.refl _ | apply Drawn0.step)⟩
        rw [if_neg c31] at H
        exact absurd H (by simp)
       subst c27
       rw [if_pos rfl] at H
       by_cases c28 : (IntKind.u64.wrap (x16_2 + ((E0) / 4294967296))) ≥ 4294967296
       ·rw [if_pos c28] at H
        have Y4 : decide (4294967296 ≤ (IntKind.u64.wrap (x16_2 + ((E0) / 4294967296)))) = true := decide_eq_true c28
        clear c28
        by_cases c29 : 0 ≤ E1
        ·rw [if_pos c29] at H
         have Y7 := eq_true c29
         have Y8 : decide (0 ≤ E1) = true := decide_eq_true c29
         clear c29
         obtain ⟨Y1, V8⟩ : ∃ j_ : Int, (shr .u64 (IntKind.u64.wrap ((IntKind.u64.wrap ((IntKind.u64.wrap ((IntKind.u64.wrap ((IntKind.u64.wrap ((IntKind.u64.wrap ((Go.bits .or .u64 (E2) (E4)) * 4294967296)) + ((E3) / 4294967296))) - (IntKind.u64.wrap (x15_18 * E0)))) * 4294967296)) + (Go.bits .and .u64 (E3) 4294967295))) - (IntKind.u64.wrap ((IntKind.u64.wrap (x18_2 - 1)) * E0)))) E1) = j_ := ⟨_, rfl⟩
         replace H : (some (IntKind.u64.wrap ((IntKind.u64.wrap (x15_18 * 4294967296)) + (IntKind.u64.wrap (x18_2 - 1))), Y1)) = some (r1, r2) := by first | (rw [V8] at H; exact H) | (simp only [V8] at H ⊢; exact H)
         have hji30_ : ((IntKind.u64.wrap ((IntKind.u64.wrap ((IntKind.u64.wrap ((IntKind.u64.wrap ((IntKind.u64.wrap ((IntKind.u64.wrap ((Go.bits .or .u64 (E2) (E4)) * 4294967296)) + ((E3) / 4294967296))) - (IntKind.u64.wrap (x15_18 * E0)))) * 4294967296)) + (Go.bits .and .u64 (E3) 4294967295))) - (IntKind.u64.wrap ((IntKind.u64.wrap (x18_2 - 1)) * E0)))) / 2 ^ min E1.toNat 64) = Y1 := V8
         have hji30z : E1 ≤ 64 → ((IntKind.u64.wrap ((IntKind.u64.wrap ((IntKind.u64.wrap ((IntKind.u64.wrap ((IntKind.u64.wrap ((IntKind.u64.wrap ((Go.bits .or .u64 (E2) (E4)) * 4294967296)) + ((E3) / 4294967296))) - (IntKind.u64.wrap (x15_18 * E0)))) * 4294967296)) + (Go.bits .and .u64 (E3) 4294967295))) - (IntKind.u64.wrap ((IntKind.u64.wrap (x18_2 - 1)) * E0)))) / 2 ^ E1.toNat) = Y1 := shr_small V8
         simp only [Option.some.injEq, Prod.mk.injEq] at H
         obtain ⟨rfl, rfl⟩ := H
         go_wp2
         repeat (go_quiet (fail); try go_wp2)
         go_ret2
         exact ⟨by first | rfl | (simp; done) | (simp only [← G1, ← E5, ← E6, ← G2, ← E7, ← E8, ← V8] <;> (first | rfl | simp)) | (simp [*]; done), by repeat (first | exact Drawn0.refl _ | apply Drawn0.step)⟩
        rw [if_neg c29] at H
        exact absurd H (by simp)
       rw [if_neg c28] at H
       have Y4 : decide (4294967296 ≤ (IntKind.u64.wrap (x16_2 + ((E0) / 4294967296)))) = false := decide_eq_false c28
       clear c28
       have H' := Aside0.mk H
       clear H
       go_wp2
       repeat (go_quiet (fail); try go_wp2)
       first | go_roundg kj24 | ((try subst E8); (try subst E7); (try subst G2); (try subst E6); (try subst E5); (try subst G1); go_roundg kj24)
       case measure => have := HJ18.out; have := HK2.out; have := HJ24.out; omega
       case rel => first | (exact ⟨(IntKind.u64.wrap (x16_2 + ((E0) / 4294967296))), (IntKind.u64.wrap (x18_2 - 1)), (by first | rfl | (simp; done) | (simp only [← E5] <;> (first | rfl | simp)) | (simp [*]; done)), (by first | rfl | (simp; done) | (simp [*]; done)), H', ⟨by have := HJ18.out; have := HK2.out; have := HJ24.out; omega⟩, by repeat (first | exact Drawn0.refl _ | apply Drawn0.step)⟩) | (exact ⟨(IntKind.u64.wrap (x16_2 + (((shl .u64 a2 ((IntKind.u64.wrap (t207))))) / 4294967296))), (IntKind.u64.wrap (x18_2 - 1)), (by first | rfl | (simp; done) | (simp only [← E5] <;> (first | rfl | simp)) | (simp [*]; done)), (by first | rfl | (simp; done) | (simp [*]; done)), H', ⟨by have := HJ18.out; have := HK2.out; have := HJ24.out; omega⟩, by repeat (first | exact Drawn0.refl _ | apply Drawn0.step)⟩)
/-! ### sample_sum_over: function 55 -/
def sample_sum_over.f (k : Nat) (a0_0 : Int) (a0_1 : Int) (a1 : Int) : Option (Int) := if (wrap64 (a0_0 + (a0_1 / 4294967296))) < 0 then (some 0) else (if ((IntKind.u64.wrap (wrap64 (a0_0 + (a0_1 / 4294967296)))) / 4294967296) ≥ (IntKind.u64.wrap (a1)) then (some 65535) else ((bits_Div64.f k ((IntKind.u64.wrap (wrap64 (a0_0 + (a0_1 / 4294967296)))) / 4294967296) (Go.bits .or .u64 (IntKind.u64.wrap ((IntKind.u64.wrap (wrap64 (a0_0 + (a0_1 / 4294967296)))) * 4294967296)) (IntKind.u64.wrap (Go.bits .and .i64 a0_1 4294967295))) (IntKind.u64.wrap (a1))).bind fun E4 => (if E4.2 ≥ (IntKind.u64.wrap ((IntKind.u64.wrap (a1)) - E4.2)) then (some (wrap64 (mn (IntKind.u64.wrap (E4.1 + 1)) 65535))) else (some (wrap64 (mn E4.1 65535))))))
theorem sample_sum_over.mono : ∀ a0 a1 a2 k, LeO (sample_sum_over.f k a0 a1 a2) (sample_sum_over.f (k + 1) a0 a1 a2) := by
 intro a0 a1 a2 k
 unfold sample_sum_over.f
 repeat' first
   | (with_reducible exact bits_Div64.mono _ _ _ _)
   | (with_reducible exact LeO.refl _)
   | (with_reducible exact LeO.none _)
   | (with_reducible refine LeO.ite ?_ ?_)
   | (with_reducible refine LeO.bind ?_ (fun _ => ?_))
   | exact bits_Div64.mono _ _ _ _
   | exact LeO.none _
   | refine LeO.ite ?_ ?_
   | refine LeO.bind ?_ (fun _ => ?_)
set_option maxHeartbeats 8000000 in
set_option maxRecDepth 100000 in
theorem sample_sum_over.calls (k : Nat) (a0_0 : Int) (a0_1 : Int) (a1 : Int) (r : Int) (w : World) (h : sample_sum_over.f k a0_0 a0_1 a1 = some r) :
  Calls Try.prog 55 #[.agg #[.int .i64 a0_0, .int .i64 a0_1], .int .i64 a1] w fun e w' => e = .returned (.int .i64 r) ∧ Below w.heap.size w w' := by
 have hu82 := Try.underlying82
 have HB := Aside0.mk (Below.refl w.heap.size w)
 have H : (if (wrap64 (a0_0 + (a0_1 / 4294967296))) < 0 then (some 0) else (if ((IntKind.u64.wrap (wrap64 (a0_0 + (a0_1 / 4294967296)))) / 4294967296) ≥ (IntKind.u64.wrap (a1)) then (some 65535) else ((bits_Div64.f k ((IntKind.u64.wrap (wrap64 (a0_0 + (a0_1 / 4294967296)))) / 4294967296) (Go.bits .or .u64 (IntKind.u64.wrap ((IntKind.u64.wrap (wrap64 (a0_0 + (a0_1 / 4294967296)))) * 4294967296)) (IntKind.u64.wrap (Go.bits .and .i64 a0_1 4294967295))) (IntKind.u64.wrap (a1))).bind fun E4 => (if E4.2 ≥ (IntKind.u64.wrap ((IntKind.u64.wrap (a1)) - E4.2)) then (some (wrap64 (mn (IntKind.u64.wrap (E4.1 + 1)) 65535))) else (some (wrap64 (mn E4.1 65535))))))) = some r := h
 clear h
 by_cases c3 : (wrap64 (a0_0 + (a0_1 / 4294967296))) < 0
 ·rw [if_pos c3] at H
  have V5 : decide ((wrap64 (a0_0 + (a0_1 / 4294967296))) < 0) = true := decide_eq_true c3
  clear c3
  obtain rfl := Option.some.inj H
  go_enter Try.func55, Try.ntmps55
  go_wp2_with (first | ((with_reducible refine gate_dst (N := 2) rfl ?_); refine box_event ?hg (N := 2) ?hd (cs := #[.int .i64 a0_0, .int .i64 a0_1]) (t := 82) ?hr ?_; (case hd => rfl); (case hg => rfl); (case hr => first | (go_simp; done) | (go_simp; rfl)); intro E1 hg w4 hbox hb; have E2 := zg HB hg; have E3 := zg HB hg; have n0_ := Aside0.mk (hbox); replace HB := zb HB hb; have E0 := n0_; clear n0_; clear hb hbox hg; obtain ⟨E9, G0, G1, G2⟩ := zq2 E0))
  repeat (go_quiet (first | ((with_reducible refine gate_dst (N := 2) rfl ?_); refine box_event ?hg (N := 2) ?hd (cs := #[.int .i64 a0_0, .int .i64 a0_1]) (t := 82) ?hr ?_; (case hd => rfl); (case hg => rfl); (case hr => first | (go_simp; done) | (go_simp; rfl)); intro E1 hg w4 hbox hb; have E2 := zg HB hg; have E3 := zg HB hg; have n0_ := Aside0.mk (hbox); replace HB := zb HB hb; have E0 := n0_; clear n0_; clear hb hbox hg; obtain ⟨E9, G0, G1, G2⟩ := zq2 E0)); try go_wp2_with (first | ((with_reducible refine gate_dst (N := 2) rfl ?_); refine box_event ?hg (N := 2) ?hd (cs := #[.int .i64 a0_0, .int .i64 a0_1]) (t := 82) ?hr ?_; (case hd => rfl); (case hg => rfl); (case hr => first | (go_simp; done) | (go_simp; rfl)); intro E1 hg w4 hbox hb; have E2 := zg HB hg; have E3 := zg HB hg; have n0_ := Aside0.mk (hbox); replace HB := zb HB hb; have E0 := n0_; clear n0_; clear hb hbox hg; obtain ⟨E9, G0, G1, G2⟩ := zq2 E0)))
  go_ret
  exact ⟨by first | rfl | (simp [errW_none, errW_some] <;> rfl) | (simp [*, errW_none, errW_some] <;> rfl), by exact zb0 HB⟩
 rw [if_neg c3] at H
 have V5 : decide ((wrap64 (a0_0 + (a0_1 / 4294967296))) < 0) = false := decide_eq_false c3
 clear c3
 by_cases c6 : ((IntKind.u64.wrap (wrap64 (a0_0 + (a0_1 / 4294967296)))) / 4294967296) ≥ (IntKind.u64.wrap (a1))
 ·rw [if_pos c6] at H
  have V6 : decide ((IntKind.u64.wrap (a1)) ≤ ((IntKind.u64.wrap (wrap64 (a0_0 + (a0_1 / 4294967296)))) / 4294967296)) = true := decide_eq_true c6
  clear c6
  obtain rfl := Option.some.inj H
  go_enter Try.func55, Try.ntmps55
  go_wp2_with (first | ((with_reducible refine gate_dst (N := 2) rfl ?_); refine box_event ?hg (N := 2) ?hd (cs := #[.int .i64 a0_0, .int .i64 a0_1]) (t := 82) ?hr ?_; (case hd => rfl); (case hg => rfl); (case hr => first | (go_simp; done) | (go_simp; rfl)); intro E1 hg w7 hbox hb; have E2 := zg HB hg; have E3 := zg HB hg; have n0_ := Aside0.mk (hbox); replace HB := zb HB hb; have E0 := n0_; clear n0_; clear hb hbox hg; obtain ⟨G3, G4, G5, G6⟩ := zq2 E0))
  repeat (go_quiet (first | ((with_reducible refine gate_dst (N := 2) rfl ?_); refine box_event ?hg (N := 2) ?hd (cs := #[.int .i64 a0_0, .int .i64 a0_1]) (t := 82) ?hr ?_; (case hd => rfl); (case hg => rfl); (case hr => first | (go_simp; done) | (go_simp; rfl)); intro E1 hg w7 hbox hb; have E2 := zg HB hg; have E3 := zg HB hg; have n0_ := Aside0.mk (hbox); replace HB := zb HB hb; have E0 := n0_; clear n0_; clear hb hbox hg; obtain ⟨G3, G4, G5, G6⟩ := zq2 E0)); try go_wp2_with (first | ((with_reducible refine gate_dst (N := 2) rfl ?_); refine box_event ?hg (N := 2) ?hd (cs := #[.int .i64 a0_0, .int .i64 a0_1]) (t := 82) ?hr ?_; (case hd => rfl); (case hg => rfl); (case hr => first | (go_simp; done) | (go_simp; rfl)); intro E1 hg w7 hbox hb; have E2 := zg HB hg; have E3 := zg HB hg; have n0_ := Aside0.mk (hbox); replace HB := zb HB hb; have E0 := n0_; clear n0_; clear hb hbox hg; obtain ⟨G3, G4, G5, G6⟩ := zq2 E0)))
  go_ret
  exact ⟨by first | rfl | (simp [errW_none, errW_some] <;> rfl) | (simp [*, errW_none, errW_some] <;> rfl), by exact zb0 HB⟩
 rw [if_neg c6] at H
 have V6 : decide ((IntKind.u64.wrap (a1)) ≤ ((IntKind.u64.wrap (wrap64 (a0_0 + (a0_1 / 4294967296)))) / 4294967296)) = false := decide_eq_false c6
 clear c6
 replace H := Option.bind_eq_some_iff.mp H
 obtain ⟨⟨t209, t210⟩, A90, H⟩ := H
 try dsimp only at H
 have A9 := Aside0.mk A90
 clear A90
 by_cases c10 : t210 ≥ (IntKind.u64.wrap ((IntKind.u64.wrap (a1)) - t210))
 ·rw [if_pos c10] at H
  have V7 : decide ((IntKind.u64.wrap ((IntKind.u64.wrap (a1)) - t210)) ≤ t210) = true := decide_eq_true c10
  clear c10
  obtain ⟨E7, E5⟩ : ∃ j_ : Int, (mn (IntKind.u64.wrap (t209 + 1)) 65535) = j_ := ⟨_, rfl⟩
  replace H : (some (wrap64 (E7))) = some r := by first | (rw [E5] at H; exact H) | (simp only [E5] at H ⊢; exact H)
  (try rw [E5] at A9)
  (try (have hji11h : E7 ≤ 65535 := by (rw [← E5]; unfold mn; (repeat' split) <;> omega)))
  (try (have hji11g : E7 ≤ 64 := by omega))
  have hji11_ : (if 65535 < (IntKind.u64.wrap (t209 + 1)) then 65535 else (IntKind.u64.wrap (t209 + 1))) = E7 := E5
  obtain rfl := Option.some.inj H
  go_enter Try.func55, Try.ntmps55
  go_wp2_with (first | ((with_reducible refine gate_dst (N := 2) rfl ?_); refine box_event ?hg (N := 2) ?hd (cs := #[.int .i64 a0_0, .int .i64 a0_1]) (t := 82) ?hr ?_; (case hd => rfl); (case hg => rfl); (case hr => first | (go_simp; done) | (go_simp; rfl)); intro E1 hg w12 hbox hb; have E2 := zg HB hg; have E3 := zg HB hg; have n0_ := Aside0.mk (hbox); replace HB := zb HB hb; have E0 := n0_; clear n0_; clear hb hbox hg; obtain ⟨G7, G8, G9, V0⟩ := zq2 E0) | (go_at_call 74; (with_reducible refine (bits_Div64.calls k ((IntKind.u64.wrap (wrap64 (a0_0 + (a0_1 / 4294967296)))) / 4294967296) (Go.bits .or .u64 (IntKind.u64.wrap ((IntKind.u64.wrap (wrap64 (a0_0 + (a0_1 / 4294967296)))) * 4294967296)) (IntKind.u64.wrap (Go.bits .and .i64 a0_1 4294967295))) (IntKind.u64.wrap (a1)) t209 t210 _ A9.out).mono ?_); rintro e w' ⟨rfl, ⟨nd, rfl⟩⟩; (try first | exact ⟨rfl, _, World.drewN_drewN _ _ _⟩ | exact ⟨rfl, _, Eq.trans (World.drewN_drewN _ _ _) (congrArg (World.drewN _) (Nat.add_assoc _ _ _))⟩)))
  repeat (go_quiet (first | ((with_reducible refine gate_dst (N := 2) rfl ?_); refine box_event ?hg (N := 2) ?hd (cs := #[.int .i64 a0_0, .int .i64 a0_1]) (t := 82) ?hr ?_; (case hd => rfl); (case hg => rfl); (case hr => first | (go_simp; done) | (go_simp; rfl)); intro E1 hg w12 hbox hb; have E2 := zg HB hg; have E3 := zg HB hg; have n0_ := Aside0.mk (hbox); replace HB := zb HB hb; have E0 := n0_; clear n0_; clear hb hbox hg; obtain ⟨G7, G8, G9, V0⟩ := zq2 E0) | (go_at_call 74; (with_reducible refine (bits_Div64.calls k ((IntKind.u64.wrap (wrap64 (a0_0 + (a0_1 / 4294967296)))) / 4294967296) (Go.bits .or .u64 (IntKind.u64.wrap ((IntKind.u64.wrap (wrap64 (a0_0 + (a0_1 / 4294967296)))) * 4294967296)) (IntKind.u64.wrap (Go.bits .and .i64 a0_1 4294967295))) (IntKind.u64.wrap (a1)) t209 t210 _ A9.out).mono ?_); rintro e w' ⟨rfl, ⟨nd, rfl⟩⟩; (try first | exact ⟨rfl, _, World.drewN_drewN _ _ _⟩ | exact ⟨rfl, _, Eq.trans (World.drewN_drewN _ _ _) (congrArg (World.drewN _) (Nat.add_assoc _ _ _))⟩))); try go_wp2_with (first | ((with_reducible refine gate_dst (N := 2) rfl ?_); refine box_event ?hg (N := 2) ?hd (cs := #[.int .i64 a0_0, .int .i64 a0_1]) (t := 82) ?hr ?_; (case hd => rfl); (case hg => rfl); (case hr => first | (go_simp; done) | (go_simp; rfl)); intro E1 hg w12 hbox hb; have E2 := zg HB hg; have E3 := zg HB hg; have n0_ := Aside0.mk (hbox); replace HB := zb HB hb; have E0 := n0_; clear n0_; clear hb hbox hg; obtain ⟨G7, G8, G9, V0⟩ := zq2 E0) | (go_at_call 74; (with_reducible refine (bits_Div64.calls k ((IntKind.u64.wrap (wrap64 (a0_0 + (a0_1 / 4294967296)))) / 4294967296) (Go.bits .or .u64 (IntKind.u64.wrap ((IntKind.u64.wrap (wrap64 (a0_0 + (a0_1 / 4294967296)))) * 4294967296)) (IntKind.u64.wrap (Go.bits .and .i64 a0_1 4294967295))) (IntKind.u64.wrap (a1)) t209 t210 _ A9.out).mono ?_); rintro e w' ⟨rfl, ⟨nd, rfl⟩⟩; (try first | exact ⟨rfl, _, World.drewN_drewN _ _ _⟩ | exact ⟨rfl, _, Eq.trans (World.drewN_drewN _ _ _) (congrArg (World.drewN _) (Nat.add_assoc _ _ _))⟩))))
  go_ret
  exact ⟨by first | rfl | (simp [errW_none, errW_some] <;> rfl) | (simp only [← E5]; first | rfl | (simp [errW_none, errW_some] <;> rfl)) | (simp [*, errW_none, errW_some] <;> rfl), by exact zb0 HB⟩
 rw [if_neg c10] at H
 have V7 : decide ((IntKind.u64.wrap ((IntKind.u64.wrap (a1)) - t210)) ≤ t210) = false := decide_eq_false c10
 clear c10
 obtain ⟨E8, E6⟩ : ∃ j_ : Int, (mn t209 65535) = j_ := ⟨_, rfl⟩
 replace H : (some (wrap64 (E8))) = some r := by first | (rw [E6] at H; exact H) | (simp only [E6] at H ⊢; exact H)
 (try rw [E6] at A9)
 (try (have hji14h : E8 ≤ 65535 := by (rw [← E6]; unfold mn; (repeat' split) <;> omega)))
 (try (have hji14g : E8 ≤ 64 := by omega))
 have hji14_ : (if 65535 < t209 then 65535 else t209) = E8 := E6
 obtain rfl := Option.some.inj H
 go_enter Try.func55, Try.ntmps55
 go_wp2_with (first | ((with_reducible refine gate_dst (N := 2) rfl ?_); refine box_event ?hg (N := 2) ?hd (cs := #[.int .i64 a0_0, .int .i64 a0_1]) (t := 82) ?hr ?_; (case hd => rfl); (case hg => rfl); (case hr => first | (go_simp; done) | (go_simp; rfl)); intro E1 hg w15 hbox hb; have E2 := zg HB hg; have E3 := zg HB hg; have n0_ := Aside0.mk (hbox); replace HB := zb HB hb; have E0 := n0_; clear n0_; clear hb hbox hg; obtain ⟨V1, V2, V3, V4⟩ := zq2 E0) | (go_at_call 74; (with_reducible refine (bits_Div64.calls k ((IntKind.u64.wrap (wrap64 (a0_0 + (a0_1 / 4294967296)))) / 4294967296) (Go.bits .or .u64 (IntKind.u64.wrap ((IntKind.u64.wrap (wrap64 (a0_0 + (a0_1 / 4294967296)))) * 4294967296)) (IntKind.u64.wrap (Go.bits .and .i64 a0_1 4294967295))) (IntKind.u64.wrap (a1)) t209 t210 _ A9.out).mono ?_); rintro e w' ⟨rfl, ⟨nd, rfl⟩⟩; (try first | exact ⟨rfl, _, World.drewN_drewN _ _ _⟩ | exact ⟨rfl, _, Eq.trans (World.drewN_drewN _ _ _) (congrArg (World.drewN _) (Nat.add_assoc _ _ _))⟩)))
 repeat (go_quiet (first | ((with_reducible refine gate_dst (N := 2) rfl ?_); refine box_event ?hg (N := 2) ?hd (cs := #[.int .i64 a0_0, .int .i64 a0_1]) (t := 82) ?hr ?_; (case hd => rfl); (case hg => rfl); (case hr => first | (go_simp; done) | (go_simp; rfl)); intro E1 hg w15 hbox hb; have E2 := zg HB hg; have E3 := zg HB hg; have n0_ := Aside0.mk (hbox); replace HB := zb HB hb; have E0 := n0_; clear n0_; clear hb hbox hg; obtain ⟨V1, V2, V3, V4⟩ := zq2 E0) | (go_at_call 74; (with_reducible refine (bits_Div64.calls k ((IntKind.u64.wrap (wrap64 (a0_0 + (a0_1 / 4294967296)))) / 4294967296) (Go.bits .or .u64 (IntKind.u64.wrap ((IntKind.u64.wrap (wrap64 (a0_0 + (a0_1 / 4294967296)))) * 4294967296)) (IntKind.u64.wrap (Go.bits .and .i64 a0_1 4294967295))) (IntKind.u64.wrap (a1)) t209 t210 _ A9.out).mono ?_); rintro e w' ⟨rfl, ⟨nd, rfl⟩⟩; (try first | exact ⟨rfl, _, World.drewN_drewN _ _ _⟩ | exact ⟨rfl, _, Eq.trans (World.drewN_drewN _ _ _) (congrArg (World.drewN _) (Nat.add_assoc _ _ _))⟩))); try go_wp2_with (first | ((with_reducible refine gate_dst (N := 2) rfl ?_); refine box_event ?hg (N := 2) ?hd (cs := #[.int .i64 a0_0, .int .i64 a0_1]) (t := 82) ?hr ?_; (case hd => rfl); (case hg => rfl); (case hr => first | (go_simp; done) | (go_simp; rfl)); intro E1 hg w15 hbox hb; have E2 := zg HB hg; have E3 := zg HB hg; have n0_ := Aside0.mk (hbox); replace HB := zb HB hb; have E0 := n0_; clear n0_; clear hb hbox hg; obtain ⟨V1, V2, V3, V4⟩ := zq2 E0) | (go_at_call 74; (with_reducible refine (bits_Div64.calls k ((IntKind.u64.wrap (wrap64 (a0_0 + (a0_1 / 4294967296)))) / 4294967296) (Go.bits .or .u64 (IntKind.u64.wrap ((IntKind.u64.wrap (wrap64 (a0_0 + (a0_1 / 4294967296)))) * 4294967296)) (IntKind.u64.wrap (Go.bits .and .i64 a0_1 4294967295))) (IntKind.u64.wrap (a1)) t209 t210 _ A9.out).mono ?_); rintro e w' ⟨rfl, ⟨nd, rfl⟩⟩; (try first | exact ⟨rfl, _, World.drewN_drewN _ _ _⟩ | exact ⟨rfl, _, Eq.trans (World.drewN_drewN _ _ _) (congrArg (World.drewN _) (Nat.add_assoc _ _ _))⟩))))
 go_ret
 exact ⟨by first | rfl | (simp [errW_none, errW_some] <;> rfl) | (simp only [← E6]; first | rfl | (simp [errW_none, errW_some] <;> rfl)) | (simp [*, errW_none, errW_some] <;> rfl), by exact zb0 HB⟩

end Go.Proofs.Ytapdifpmijgkcaa.G
