/- Quotients rounded to the nearest number: the program's and the specification's agree for a positive divisor. No conditions but those that each lemma names. -/
import Derived.Test.YtapdifpmijgkcaaG1
namespace Go.Proofs.Ytapdifpmijgkcaa.Pure
open Go.RowKit Go.Proofs.YtapdifpmijgkcaaW.PrintWords Go.Proofs.YtapdifpmijgkcaaW.PrintLast Go.Proofs.YtapdifpmijgkcaaW.PrintMore Go.Proofs.Ytapdifpmijgkcaa.G
set_option linter.unusedVariables false
set_option linter.unusedSimpArgs false

theorem w64 {x : Int} (h : -9223372036854775808 ≤ x) (h' : x ≤ 9223372036854775807) : wrap64 x = x := by unfold wrap64; omega
theorem u64_id {n : Int} (h0 : 0 ≤ n) (h1 : n ≤ 18446744073709551615) : IntKind.u64.wrap n = n := by
  have e : IntKind.u64.wrap n = n % 18446744073709551616 := by simp [IntKind.wrap, IntKind.bits, IntKind.signed]
  rw [e]; omega
/-- The quotient rounded to the nearest number, halves up, for a positive divisor. -/
def divR (a b : Int) : Int := if a % b ≥ b - a % b then a / b + 1 else a / b
theorem tdiv_facts (a b : Int) (hb : 0 < b) : (0 ≤ a → Int.tdiv a b = a / b ∧ Int.tmod a b = a % b) ∧ (a < 0 → (Int.tmod a b = 0 → Int.tdiv a b = a / b) ∧ (Int.tmod a b ≠ 0 → Int.tdiv a b = a / b + 1)) := by
  refine ⟨fun h => ⟨Int.tdiv_eq_ediv_of_nonneg h, Int.tmod_eq_emod_of_nonneg h⟩, fun h => ?_⟩
  have e : Int.tmod a b + b * Int.tdiv a b = a := Int.tmod_add_mul_tdiv a b
  have n1 : (-a).tmod b = -(a.tmod b) := Int.neg_tmod _ _
  have n2 : 0 ≤ (-a).tmod b := Int.tmod_nonneg b (by omega)
  have n3 : (-a).tmod b < b := Int.tmod_lt_of_pos (-a) hb
  refine ⟨fun h0 => ?_, fun h0 => ?_⟩
  · exact ((Int.ediv_emod_unique hb).2 ⟨e, by omega, by omega⟩).1.symm
  · have := ((Int.ediv_emod_unique (a := a) (r := Int.tmod a b + b) (q := Int.tdiv a b - 1) hb).2 ⟨by rw [Int.mul_sub]; omega, by omega, by omega⟩).1
    omega
theorem ediv_small {a b : Int} (hb : 0 < b) (h1 : -4611686018427387904 ≤ a) (h2 : a ≤ 4611686018427387904) : -4611686018427387904 ≤ a / b ∧ a / b ≤ 4611686018427387904 := by
  refine ⟨?_, ?_⟩
  · refine Int.le_ediv_of_mul_le hb ?_
    have := Int.mul_le_mul_of_nonneg_left (show (1 : Int) ≤ b by omega) (show (0 : Int) ≤ 4611686018427387904 by omega)
    omega
  · by_cases h : 0 ≤ a
    · have := Int.ediv_le_self b h
      omega
    · have : a / b < 0 := Int.ediv_neg_of_neg_of_pos (by omega) hb
      omega
section
variable {a b : Int} (hb : 0 < b) (hb' : b ≤ 1000000000000) (h1 : -4611686018427387904 ≤ a) (h2 : a ≤ 4611686018427387904)
include hb hb' h1 h2
theorem floor_eq : num_Floor.f a b = some (a / b) := by
  obtain ⟨f1, f2⟩ := tdiv_facts a b hb
  obtain ⟨s1, s2⟩ := ediv_small hb h1 h2
  unfold num_Floor.f
  rw [if_neg (by omega), if_neg (by omega)]
  by_cases ha : 0 ≤ a
  · obtain ⟨e1, e2⟩ := f1 ha
    rw [e1, e2, decide_eq_false (show ¬ a < 0 by omega), decide_eq_false (show ¬ b < 0 by omega), w64 (by omega) (by omega)]
    simp
  · obtain ⟨g1, g2⟩ := f2 (by omega)
    rw [decide_eq_true (show a < 0 by omega), decide_eq_false (show ¬ b < 0 by omega)]
    by_cases hm : Int.tmod a b = 0
    · rw [if_pos hm, g1 hm, w64 (by omega) (by omega)]
    · rw [if_neg hm, g2 hm, w64 (show -9223372036854775808 ≤ a / b + 1 by omega) (by omega), w64 (by omega) (by omega), if_pos (by decide)]
      congr 1; omega
theorem div_eq : Ev (fun k => num_Div.f k a b) (divR a b) := by
  obtain ⟨s1, s2⟩ := ediv_small hb h1 h2
  have m1 := Int.emod_nonneg a (show b ≠ 0 by omega)
  have m2 := Int.emod_lt_of_pos a hb
  have m3 := Int.mul_ediv_add_emod a b
  have m4 : a / b * b = b * (a / b) := Int.mul_comm _ _
  unfold num_Div.f
  simp only [floor_eq hb hb' h1 h2, Option.bind_some, if_neg (show ¬ b = 0 by omega)]
  refine .step (f := fun _ => some (divR a b)) (fun k => ?_) (.now _)
  rw [num_Div.j0, if_neg (by simp; omega), if_pos hb, w64 (show -9223372036854775808 ≤ a / b * b by omega) (by omega), w64 (show -9223372036854775808 ≤ a - a / b * b by omega) (by omega), show a - a / b * b = a % b by omega, w64 (show -9223372036854775808 ≤ b - a % b by omega) (by omega), w64 (show -9223372036854775808 ≤ a / b + 1 by omega) (by omega), if_neg (show ¬ b < 0 by omega), divR]
  split <;> rfl
end
end Go.Proofs.Ytapdifpmijgkcaa.Pure
