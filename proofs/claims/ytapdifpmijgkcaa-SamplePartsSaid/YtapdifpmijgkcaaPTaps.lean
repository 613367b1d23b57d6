/- Taps in plain words: it always answers, with at least one weight; the first pixel and how far they reach. -/
import Derived.Test.YtapdifpmijgkcaaPDivP
import Derived.Test.YtapdifpmijgkcaaG1
import Derived.Test.YtapdifpmijgkcaaG4
import Derived.Test.YtapdifpmijgkcaaG5
namespace Go.Proofs.Ytapdifpmijgkcaa.Pure
open Go.RowKit Go.Proofs.YtapdifpmijgkcaaW.PrintWords Go.Proofs.YtapdifpmijgkcaaW.PrintLast Go.Proofs.YtapdifpmijgkcaaW.PrintMore Go.Proofs.Ytapdifpmijgkcaa.G
set_option linter.unusedVariables false
set_option linter.unusedSimpArgs false

theorem kvalid_eq (a : Int) : kernel_Valid.f a = some (decide (0 ≤ a ∧ a ≤ 4)) := by
  unfold kernel_Valid.f
  by_cases h : a ≥ 0
  · rw [if_pos h]; congr 1; exact decide_eq_decide.2 (by omega)
  · rw [if_neg h, decide_eq_false (by omega)]
def supV (a : Int) : Int := if a = 2 ∨ a = 4 then 2 else 1
theorem supV_b (a : Int) : 1 ≤ supV a ∧ supV a ≤ 2 := by unfold supV; split <;> omega
theorem support_eq {a : Int} (h : 0 ≤ a ∧ a ≤ 4) : kernel_Support.f a = some (supV a) := by
  unfold kernel_Support.f supV
  rw [kvalid_eq, Option.bind_some, if_pos (by simpa using h)]
  by_cases c : a = 2
  · rw [if_pos c, if_pos (.inl c)]
  by_cases d : a = 4
  · rw [if_neg c, if_pos d, if_pos (.inr d)]
  · rw [if_neg c, if_neg d, if_neg (by omega)]
theorem floor_tot (a b : Int) : ∃ r, num_Floor.f a b = some r := by
  unfold num_Floor.f
  repeat' split
  all_goals exact ⟨_, rfl⟩
theorem div1 (a b : Int) : ∃ r, num_Div.f 1 a b = some r := by
  obtain ⟨q, hq⟩ := floor_tot a b
  unfold num_Div.f
  rw [hq, Option.bind_some]
  simp only [num_Div.j0]
  repeat' split
  all_goals exact ⟨_, rfl⟩
theorem div_tot (a b : Int) : ∃ r, Ev (fun k => num_Div.f k a b) r := by
  obtain ⟨r, h⟩ := div1 a b
  exact ⟨r, .of (num_Div.mono a b) h⟩
theorem bind_tot {g : Option Int} (h : ∃ r, g = some r) : ∃ r, (g.bind fun t => some t) = some r := by
  obtain ⟨r, rfl⟩ := h
  exact ⟨r, rfl⟩
theorem cubic1 (a b c d e f : Int) : ∃ r, kernel_cubic.f 1 a b c d e f = some r := by
  unfold kernel_cubic.f
  exact bind_tot (div1 _ _)
theorem weight_tot (a t : Int) : ∃ r, Ev (fun k => kernel_Weight.f k a t) r := by
  have h : ∃ r, kernel_Weight.f 2 a t = some r := by
    unfold kernel_Weight.f
    simp only [kernel_Weight.j0]
    repeat' split
    all_goals first | exact ⟨_, rfl⟩ | exact bind_tot (cubic1 _ _ _ _ _ _)
  obtain ⟨r, h⟩ := h
  exact ⟨r, .of (kernel_Weight.mono a t) h⟩
theorem taps_l1 (x4 x7 : Int) : ∀ (n : Nat) (L : List Int) (i : Nat) (rest best : Int), i + n = L.length → L.length ≤ 100 → 0 ≤ best → best < L.length → ∃ T : List Int, T.length = L.length ∧ Ev (fun k => kernel_Taps.l1 k x4 L x7 rest best (L.length : Int) (i : Int)) (x4, T) := by
  intro n
  induction n with
  | zero =>
    intro L i rest best hi hL h0 h1
    refine ⟨L.set best.toNat (wrap64 ((rd L best) + rest)), List.length_set .., .step (f := fun _ => some (x4, L.set best.toNat (wrap64 ((rd L best) + rest)))) (fun k => ?_) (.now _)⟩
    rw [kernel_Taps.l1, if_neg (by omega), if_pos h0, if_pos h1]
  | succ n ih =>
    intro L i rest best hi hL h0 h1
    obtain ⟨t, ht⟩ := div_tot (wrap64 ((rd L i) * 65536)) x7
    have hl : (L.set i t).length = L.length := List.length_set ..
    have ew : wrap64 ((i : Int) + 1) = ((i + 1 : Nat) : Int) := by rw [w64 (by omega) (by omega)]; rfl
    by_cases c : rd (L.set i t) i > rd (L.set i t) best
    · obtain ⟨T, hT, hE⟩ := ih (L.set i t) (i + 1) (wrap64 (rest - (rd (L.set i t) i))) (i : Int) (by omega) (by omega) (by omega) (by omega)
      rw [hl] at hE
      refine ⟨T, by omega, .step (fun k => by rw [kernel_Taps.l1, if_pos (by omega), if_pos (by omega), if_pos (by omega)]) (ht.bind ?_)⟩
      simp only [Option.bind_some, Int.toNat_natCast, if_pos h0, if_pos h1, if_pos c, ew]
      exact hE
    · obtain ⟨T, hT, hE⟩ := ih (L.set i t) (i + 1) (wrap64 (rest - (rd (L.set i t) i))) best (by omega) (by omega) (by omega) (by omega)
      rw [hl] at hE
      refine ⟨T, by omega, .step (fun k => by rw [kernel_Taps.l1, if_pos (by omega), if_pos (by omega), if_pos (by omega)]) (ht.bind ?_)⟩
      simp only [Option.bind_some, Int.toNat_natCast, if_pos h0, if_pos h1, if_neg c, ew]
      exact hE
theorem taps_l0 (kind x1 x4 x6 : Int) (hx : -2199023255552 ≤ x1 ∧ x1 ≤ 2199023255552) (h6 : 0 ≤ x6 ∧ x6 ≤ 131072) : ∀ (n : Nat) (L : List Int) (x7 c : Int), x1 + x6 - c ≤ 65536 * n → L.length + n ≤ 100 → (0 < L.length ∨ c < x1 + x6) → -4398046511104 ≤ c → c < x1 + x6 + 65536 → ∃ T : List Int, Ev (fun k => kernel_Taps.l0 k kind x1 x4 L x6 x7 c) (x4, T) ∧ 1 ≤ T.length ∧ T.length ≤ 100 ∧ c + 65536 * ((T.length : Int) - L.length) < x1 + x6 + 65536 := by
  intro n
  have e6 : wrap64 (x1 + x6) = x1 + x6 := w64 (by omega) (by omega)
  induction n with
  | zero =>
    intro L x7 c h1 h2 h3 h4 h5
    obtain ⟨T, hT, hE⟩ := taps_l1 x4 x7 L.length L 0 65536 0 (by omega) (by omega) (by omega) (by omega)
    refine ⟨T, .step (fun k => by rw [kernel_Taps.l0, e6, if_neg (by omega)]; rfl) hE, by omega, by omega, ?_⟩
    rw [hT]; omega
  | succ n ih =>
    intro L x7 c h1 h2 h3 h4 h5
    by_cases d : c < x1 + x6
    · obtain ⟨t, ht⟩ := weight_tot kind (wrap64 (x1 - c))
      have ec : wrap64 (c + 65536) = c + 65536 := w64 (by omega) (by omega)
      have el : (L ++ [t]).length = L.length + 1 := by simp
      obtain ⟨T, hE, hT, hT', hr⟩ := ih (L ++ [t]) (wrap64 (x7 + t)) (c + 65536) (by omega) (by omega) (by omega) (by omega) (by omega)
      rw [el] at hr
      refine ⟨T, .step (fun k => by rw [kernel_Taps.l0, e6, if_pos d]) (ht.bind ?_), hT, hT', by omega⟩
      simp only [if_pos (show L.length < 17592186044416 by omega), ec]
      exact hE
    · obtain ⟨T, hT, hE⟩ := taps_l1 x4 x7 L.length L 0 65536 0 (by omega) (by omega) (by omega) (by omega)
      refine ⟨T, .step (fun k => by rw [kernel_Taps.l0, e6, if_neg d]; rfl) hE, by omega, by omega, ?_⟩
      rw [hT]; omega
/-- A position, limited. -/
def posV (v : Int) : Int := mn 1099511627776 (mx v (-1099511627776))
theorem posV_b (v : Int) : -1099511627776 ≤ posV v ∧ posV v ≤ 1099511627776 := by unfold posV mn mx; split <;> split <;> omega
/-- What Taps gives: the first pixel, as many weights. -/
def tapsOk (kind v : Int) (T : Int × List Int) : Prop := Ev (fun k => kernel_Taps.f k kind v) T ∧ 1 ≤ T.2.length ∧ T.2.length ≤ 100 ∧ T.1 = (posV v - supV kind * 65536 - 32768) / 65536 + 1 ∧ (T.1 + (T.2.length : Int) - 1) * 65536 + 32768 < posV v + supV kind * 65536
theorem taps_tot {kind : Int} (hk : 0 ≤ kind ∧ kind ≤ 4) (v : Int) : ∃ T, tapsOk kind v T := by
  have pb := posV_b v
  have sb := supV_b kind
  unfold tapsOk kernel_Taps.f
  simp only [kvalid_eq, Option.bind_some, decide_eq_true hk, if_true, support_eq hk]
  simp only [show num_Clamp.f v (-1099511627776) 1099511627776 = some (posV v) from rfl, Option.bind_some]
  generalize posV v = p at *
  generalize supV kind = s at *
  rw [w64 (x := s * 65536) (by omega) (by omega), w64 (x := p - s * 65536) (by omega) (by omega), w64 (x := p - s * 65536 - 32768) (by omega) (by omega)]
  rw [floor_eq (a := p - s * 65536 - 32768) (b := 65536) (by omega) (by omega) (by omega) (by omega)]
  simp only [Option.bind_some]
  generalize hq : (p - s * 65536 - 32768) / 65536 = q at *
  rw [w64 (x := q + 1) (by omega) (by omega), w64 (x := (q + 1) * 65536) (by omega) (by omega), w64 (x := (q + 1) * 65536 + 32768) (by omega) (by omega)]
  obtain ⟨T, hE, h1, h2, h3⟩ := taps_l0 kind p (q + 1) (s * 65536) (by omega) (by omega) 10 [] 0 ((q + 1) * 65536 + 32768) (by omega) (by simp) (by omega) (by omega) (by omega)
  refine ⟨(q + 1, T), hE, h1, h2, rfl, ?_⟩
  simp only [List.length_nil] at h3
  show (q + 1 + (T.length : Int) - 1) * 65536 + 32768 < p + s * 65536
  omega
end Go.Proofs.Ytapdifpmijgkcaa.Pure
