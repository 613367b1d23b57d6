/- Similar and Soft of the program: the masks that they compute. No conditions. -/
import Derived.Test.YtmmncannibnklaaPAll
import Derived.Test.YtmmncannibnklaaG1
import Derived.Test.YtmmncannibnklaaG8
import Derived.Test.YtmmncannibnklaaG9
namespace Go.Proofs.Ytmmncannibnklaa.Pure
open Go.RowKit Go.Proofs.YtmmncannibnklaaW.PrintWords Go.Proofs.YtmmncannibnklaaW.PrintLast Go.Proofs.YtmmncannibnklaaW.PrintMore Go.Proofs.Ytmmncannibnklaa.G
set_option linter.unusedVariables false
set_option linter.unusedSimpArgs false
theorem u64_id {n : Int} (h0 : 0 ≤ n) (h1 : n ≤ 18446744073709551615) : IntKind.u64.wrap n = n := by
  have e : IntKind.u64.wrap n = n % 18446744073709551616 := by simp [IntKind.wrap, IntKind.bits, IntKind.signed]
  rw [e]; omega
/-- The quotient rounded to the nearest number, halves up, for a positive divisor. -/
def divR (a b : Int) : Int := if a % b ≥ b - a % b then a / b + 1 else a / b
theorem tdiv_facts (a b : Int) (hb : 0 < b) : (0 ≤ a → Int.tdiv a b = a / b ∧ Int.tmod a b = a % b) ∧ (a < 0 → (Int.tmod a b = 0 → Int.tdiv a b = a / b) ∧ (Int.tmod a b ≠ 0 → Int.tdiv a b = a / b + 1)) := by
  refine ⟨fun h => ⟨Int.tdiv_eq_ediv_of_nonneg h, Int.tmod_eq_emod_of_nonneg h⟩, fun h => ?_⟩
  have e : Int.tmod a b + b * Int.tdiv a b = a := Int.tmod_add_mul_tdiv a b
  have n1 : (-a).tmod b = -(a.tmod b) := Int.neg_tmod _ _
  have n2 : 0 ≤ (-a).tmod b := Int.tmod_nonneg b (by omega)
  have n3 : (-a).tmod b < b := Int.tmod_lt_of_pos (-a) hb
  refine ⟨fun h0 => ?_, fun h0 => ?_⟩
  · exact ((Int.ediv_emod_unique hb).2 ⟨e, by omega, by omega⟩).1.symm
  · have := ((Int.ediv_emod_unique (a := a) (r := Int.tmod a b + b) (q := Int.tdiv a b - 1) hb).2 ⟨by rw [Int.mul_sub]; omega, by omega, by omega⟩).1
    omega
theorem ediv_small {a b : Int} (hb : 0 < b) (h1 : -4611686018427387904 ≤ a) (h2 : a ≤ 4611686018427387904) : -4611686018427387904 ≤ a / b ∧ a / b ≤ 4611686018427387904 := by
  refine ⟨?_, ?_⟩
  · refine Int.le_ediv_of_mul_le hb ?_
    have := Int.mul_le_mul_of_nonneg_left (show (1 : Int) ≤ b by omega) (show (0 : Int) ≤ 4611686018427387904 by omega)
    omega
  · by_cases h : 0 ≤ a
    · have := Int.ediv_le_self b h
      omega
    · have : a / b < 0 := Int.ediv_neg_of_neg_of_pos (by omega) hb
      omega
section
variable {a b : Int} (hb : 0 < b) (hb' : b ≤ 1000000000000) (h1 : -4611686018427387904 ≤ a) (h2 : a ≤ 4611686018427387904)
include hb hb' h1 h2
theorem floor_eq : num_Floor.f a b = some (a / b) := by
  obtain ⟨f1, f2⟩ := tdiv_facts a b hb
  obtain ⟨s1, s2⟩ := ediv_small hb h1 h2
  unfold num_Floor.f
  rw [if_neg (by omega), if_neg (by omega)]
  by_cases ha : 0 ≤ a
  · obtain ⟨e1, e2⟩ := f1 ha
    rw [e1, e2, decide_eq_false (show ¬ a < 0 by omega), decide_eq_false (show ¬ b < 0 by omega), w64 (by omega) (by omega)]
    simp
  · obtain ⟨g1, g2⟩ := f2 (by omega)
    rw [decide_eq_true (show a < 0 by omega), decide_eq_false (show ¬ b < 0 by omega)]
    by_cases hm : Int.tmod a b = 0
    · rw [if_pos hm, g1 hm, w64 (by omega) (by omega)]
    · rw [if_neg hm, g2 hm, w64 (show -9223372036854775808 ≤ a / b + 1 by omega) (by omega), w64 (by omega) (by omega), if_pos (by decide)]
      congr 1; omega
theorem div_eq : Ev (fun k => num_Div.f k a b) (divR a b) := by
  obtain ⟨s1, s2⟩ := ediv_small hb h1 h2
  have m1 := Int.emod_nonneg a (show b ≠ 0 by omega)
  have m2 := Int.emod_lt_of_pos a hb
  have m3 := Int.mul_ediv_add_emod a b
  have m4 : a / b * b = b * (a / b) := Int.mul_comm _ _
  unfold num_Div.f
  simp only [floor_eq hb hb' h1 h2, Option.bind_some, if_neg (show ¬ b = 0 by omega)]
  refine .step (f := fun _ => some (divR a b)) (fun k => ?_) (.now _)
  rw [num_Div.j0, if_neg (by simp; omega), if_pos hb, w64 (show -9223372036854775808 ≤ a / b * b by omega) (by omega), w64 (show -9223372036854775808 ≤ a - a / b * b by omega) (by omega), show a - a / b * b = a % b by omega, w64 (show -9223372036854775808 ≤ b - a % b by omega) (by omega), w64 (show -9223372036854775808 ≤ a / b + 1 by omega) (by omega), if_neg (show ¬ b < 0 by omega), divR]
  split <;> rfl
end
def simV (c : S37) (tol : Int) (p : S37) : Int := if distS p c ≤ tol then 65535 else 0
def softV (c : S37) (near far : Int) (p : S37) : Int := if distS p c ≤ near then 65535 else if distS p c ≥ far then 0 else divR (65535 * (far - distS p c)) (far - near)
theorem distS_lo (p c : S37) : 0 ≤ distS p c := dist_lo _ _ _ _ _ _ _ _
theorem distS_hi (p c : S37) : distS p c ≤ 65535 := dist_hi _ _ _ _ _ _ _ _
theorem distS_eq (p c : S37) : pixel_Dist.f p.f0 p.f1 p.f2 p.f3 c.f0 c.f1 c.f2 c.f3 = some (distS p c) := dist_eq _ _ _ _ _ _ _ _
theorem chosen_eq (b : Bool) : wand_chosen.f b = some (if b = true then 65535 else 0) := by unfold wand_chosen.f; split <;> rfl
section
variable {W H : Int} {l : List S37} (hl : (l.length : Int) ≤ 65536) (c : S37)
include hl
theorem small (g : S37 → Int) (i : Nat) : ((l.take i).map g).length < 17592186044416 := by simp only [List.length_map, List.length_take]; omega
omit hl in
theorem snoc (g : S37 → Int) (i : Nat) (h : i < l.length) : ((l.take i).map g) ++ [g (rd_T37 l (i : Int))] = (l.take (i + 1)).map g := by
  rw [List.take_succ_eq_append_getElem h, List.map_append, rd_get l i h, List.map_singleton]
theorem simLoop1 (tol : Int) : ∀ (m i : Nat), i + m = l.length → Ev (fun k => wand_each__wand_Similar_1.l0 k l (l.length : Int) (i : Int) c.f0 c.f1 c.f2 c.f3 tol W H ((l.take i).map (simV c tol))) (W, H, l.map (simV c tol)) := by
  intro m
  induction m with
  | zero => intro i hi; exact .step (f := fun _ => some (W, H, l.map (simV c tol))) (fun k => by rw [wand_each__wand_Similar_1.l0, if_neg (by omega), List.take_of_length_le (show l.length ≤ i by omega)]) (.now _)
  | succ m ih =>
    intro i hi
    have e : wand_Similar_1.f (rd_T37 l (i : Int)).f0 (rd_T37 l (i : Int)).f1 (rd_T37 l (i : Int)).f2 (rd_T37 l (i : Int)).f3 c.f0 c.f1 c.f2 c.f3 tol = some (simV c tol (rd_T37 l (i : Int))) := by
      unfold wand_Similar_1.f
      rw [distS_eq, Option.bind_some, chosen_eq, Option.bind_some, simV]
      simp only [decide_eq_true_eq]
    refine .step (fun k => by rw [wand_each__wand_Similar_1.l0, if_pos (by omega), if_pos (by omega), if_pos (by omega), e, Option.bind_some, if_pos (small hl _ _), w64 (by omega) (by omega), snoc _ _ (by omega)]) ?_
    exact ih (i + 1) (by omega)
variable {near far : Int} (h1 : 0 ≤ near) (h2 : near < far) (h3 : far ≤ 65535)
include h1 h2 h3
omit hl in
theorem soft_div (p : S37) : -4611686018427387904 ≤ 65535 * (far - distS p c) ∧ 65535 * (far - distS p c) ≤ 4611686018427387904 := by
  have := distS_lo p c
  have := distS_hi p c
  omega
omit hl in
theorem soft1 (p : S37) : Ev (fun k => wand_Soft_1.f k p.f0 p.f1 p.f2 p.f3 c.f0 c.f1 c.f2 c.f3 near far) (softV c near far p) := by
  have d1 := distS_lo p c
  have d2 := distS_hi p c
  obtain ⟨b1, b2⟩ := soft_div c h1 h2 h3 p
  unfold wand_Soft_1.f softV
  simp only [distS_eq, Option.bind_some]
  by_cases c1 : distS p c ≤ near
  · simp only [if_pos c1]
    exact .step (f := fun _ => some 65535) (fun k => by rw [wand_Soft_1.j0, if_pos rfl, chosen_eq, Option.bind_some, decide_eq_true c1, if_pos rfl]) (.now _)
  simp only [if_neg c1]
  by_cases c2 : distS p c ≥ far
  · simp only [if_pos c2, decide_eq_true c2]
    exact .step (f := fun _ => some 0) (fun k => by rw [wand_Soft_1.j0, if_pos rfl, chosen_eq, Option.bind_some, decide_eq_false c1, if_neg (by simp)]) (.now _)
  simp only [if_neg c2, decide_eq_false c2]
  refine .step (fun k => by rw [wand_Soft_1.j0, if_neg (by simp), w64 (show -9223372036854775808 ≤ far - distS p c by omega) (by omega), w64 (show -9223372036854775808 ≤ 65535 * (far - distS p c) by omega) (by omega), w64 (show -9223372036854775808 ≤ far - near by omega) (by omega)]) ?_
  exact (div_eq (by omega) (by omega) b1 b2).bind (.now _)
theorem softLoop1 : ∀ (m i : Nat), i + m = l.length → Ev (fun k => wand_each__wand_Soft_1.l0 k l (l.length : Int) (i : Int) c.f0 c.f1 c.f2 c.f3 near far W H ((l.take i).map (softV c near far))) (W, H, l.map (softV c near far)) := by
  intro m
  induction m with
  | zero => intro i hi; exact .step (f := fun _ => some (W, H, l.map (softV c near far))) (fun k => by rw [wand_each__wand_Soft_1.l0, if_neg (by omega), List.take_of_length_le (show l.length ≤ i by omega)]) (.now _)
  | succ m ih =>
    intro i hi
    refine .step (fun k => by rw [wand_each__wand_Soft_1.l0, if_pos (by omega), if_pos (by omega), if_pos (by omega), w64 (by omega) (by omega)]) ((soft1 c h1 h2 h3 _).bind ?_)
    have hn := ih (i + 1) (by omega)
    rw [← snoc _ _ (by omega)] at hn
    simp only [if_pos (small hl (softV c near far) i)]
    exact hn
end
def simR (W H : Int) (l : List S37) (c : S37) (tol : Int) : Int × Int × List Int × Int :=
  if chk W H l = 0 then (if pxOk c.f0 c.f1 c.f2 c.f3 = true ∧ (0 ≤ tol ∧ tol ≤ 65535) then (W, H, l.map (simV c tol), 0) else (0, 0, [], 2)) else (0, 0, [], chk W H l)
def softR (W H : Int) (l : List S37) (c : S37) (near far : Int) : Int × Int × List Int × Int :=
  if chk W H l = 0 then (if pxOk c.f0 c.f1 c.f2 c.f3 = true ∧ (0 ≤ near ∧ near ≤ 65535) ∧ (0 ≤ far ∧ far ≤ 65535) then (if near ≥ far then (0, 0, [], 24) else (W, H, l.map (softV c near far), 0)) else (0, 0, [], 2)) else (0, 0, [], chk W H l)
theorem chk_small {W H : Int} {l : List S37} (h : chk W H l = 0) : (l.length : Int) ≤ 65536 := by
  obtain ⟨hs, hl, _⟩ := chk_ok h
  have := area hs
  omega
section
variable (W H : Int) (l : List S37) (c : S37) (tol near far : Int)
theorem similar_eq : Ev (fun k => wand_Similar.f k W H l c.f0 c.f1 c.f2 c.f3 tol) (simR W H l c tol) := by
  unfold wand_Similar.f simR
  refine (check_eq W H l).bind ?_
  by_cases h : chk W H l = 0
  case neg => simp only [if_neg h]; exact .now _
  simp only [if_pos h, valid_eq, unit_eq, Option.bind_some, decide_eq_true_eq]
  by_cases h1 : pxOk c.f0 c.f1 c.f2 c.f3 = true
  case neg => simp only [if_neg h1, h1, false_and, if_false]; exact .now _
  simp only [h1, if_true, true_and]
  by_cases h2 : 0 ≤ tol ∧ tol ≤ 65535
  case neg => simp only [if_neg h2]; exact .now _
  simp only [if_pos h2]
  refine Ev.bind (a := (W, H, l.map (simV c tol))) ?_ (.now _)
  exact simLoop1 (chk_small h) c tol l.length 0 (by omega)
theorem soft_eq : Ev (fun k => wand_Soft.f k W H l c.f0 c.f1 c.f2 c.f3 near far) (softR W H l c near far) := by
  unfold wand_Soft.f softR
  have bad : Ev (fun k => wand_Soft.j0 k true W H l c.f0 c.f1 c.f2 c.f3 near far) (0, 0, [], 2) := .step (f := fun _ => some (0, 0, [], 2)) (fun k => by rw [wand_Soft.j0, if_pos rfl]) (.now _)
  refine (check_eq W H l).bind ?_
  by_cases h : chk W H l = 0
  case neg => simp only [if_neg h]; exact .now _
  simp only [if_pos h, valid_eq, unit_eq, Option.bind_some, decide_eq_true_eq]
  by_cases h1 : pxOk c.f0 c.f1 c.f2 c.f3 = true
  case neg => simp only [if_neg h1, h1, false_and, if_false]; exact bad
  simp only [h1, if_true, true_and]
  by_cases h2 : 0 ≤ near ∧ near ≤ 65535
  case neg => simp only [if_neg h2, h2, false_and, if_false]; exact bad
  simp only [if_pos h2, h2, true_and]
  by_cases h3 : 0 ≤ far ∧ far ≤ 65535
  case neg => simp only [if_neg h3, decide_eq_false h3, Bool.not_false, and_self, if_true]; exact bad
  simp only [if_pos h3, decide_eq_true h3, Bool.not_true, and_self, if_true]
  by_cases h4 : near ≥ far
  · refine .step (f := fun _ => some (0, 0, [], 24)) (fun k => by rw [wand_Soft.j0, if_neg (by simp), if_pos h4]) ?_
    simp only [if_pos h4]
    exact .now _
  refine .step (fun k => by rw [wand_Soft.j0, if_neg (by simp), if_neg h4]) ?_
  simp only [if_neg h4]
  refine Ev.bind (a := (W, H, l.map (softV c near far))) ?_ (.now _)
  exact softLoop1 (chk_small h) c h2.1 (by omega) h3.2 l.length 0 (by omega)
theorem simR_small : ((simR W H l c tol).2.2.1.length : Int) ≤ 65536 := by
  unfold simR
  split
  · rename_i h
    split
    · simpa using chk_small h
    · simp
  · simp
theorem softR_small : ((softR W H l c near far).2.2.1.length : Int) ≤ 65536 := by
  unfold softR
  split
  · rename_i h
    split
    · split
      · simp
      · simpa using chk_small h
    · simp
  · simp
end
end Go.Proofs.Ytmmncannibnklaa.Pure
