/- What the small functions compute: Limit, Valid, Dist and Check, of the program and of the specification alike. No conditions. -/
import Derived.Test.YtmmncannibnklaaG1
import Derived.Test.YtmmncannibnklaaG4
import Derived.Test.YtmmncannibnklaaG5
namespace Go.Proofs.Ytmmncannibnklaa.Pure
open Go.RowKit Go.Proofs.YtmmncannibnklaaW.PrintWords Go.Proofs.YtmmncannibnklaaW.PrintLast Go.Proofs.YtmmncannibnklaaW.PrintMore Go.Proofs.Ytmmncannibnklaa.G
set_option linter.unusedVariables false
set_option linter.unusedSimpArgs false

theorem w64 {x : Int} (h : -9223372036854775808 ≤ x) (h' : x ≤ 9223372036854775807) : wrap64 x = x := by unfold wrap64; omega
/-- A number limited to a unit value. -/
def cl (x : Int) : Int := mn 65535 (mx x 0)
theorem cl_lo (x : Int) : 0 ≤ cl x := by unfold cl mn mx; split <;> split <;> omega
theorem cl_hi (x : Int) : cl x ≤ 65535 := by unfold cl mn mx; split <;> split <;> omega
theorem cl_id {x : Int} (h : 0 ≤ x) (h' : x ≤ 65535) : cl x = x := by unfold cl mn mx; split <;> split <;> omega
theorem limit_eq (a b c d : Int) : pixel_Limit.f a b c d = some (cl a, cl b, cl c, cl d) := rfl
theorem limit_eq' (a b c d : Int) : imageeditorref06_Limit.f a b c d = some (cl a, cl b, cl c, cl d) := rfl
/-- All values are unit values. -/
def pxOk (a b c d : Int) : Bool := a == cl a && (b == cl b && (c == cl c && d == cl d))
theorem valid_eq (a b c d : Int) : pixel_Valid.f a b c d = some (pxOk a b c d) := rfl
theorem beq_turn (a b : Int) : (a == b) = (b == a) := by rw [Bool.eq_iff_iff, beq_iff_eq, beq_iff_eq]; exact eq_comm
theorem valid_eq' (a b c d : Int) : imageeditorref06_Valid.f a b c d = some (pxOk a b c d) := by
  unfold imageeditorref06_Valid.f
  rw [limit_eq']
  simp only [Option.bind_some, pxOk]
  rw [beq_turn (cl a), beq_turn (cl b), beq_turn (cl c), beq_turn (cl d)]
theorem pxOk_iff (a b c d : Int) : pxOk a b c d = true ↔ (0 ≤ a ∧ a ≤ 65535) ∧ (0 ≤ b ∧ b ≤ 65535) ∧ (0 ≤ c ∧ c ≤ 65535) ∧ (0 ≤ d ∧ d ≤ 65535) := by
  have key : ∀ x : Int, (x == cl x) = true ↔ 0 ≤ x ∧ x ≤ 65535 := by
    intro x
    rw [beq_iff_eq]
    constructor
    · intro h
      have := cl_lo x
      have := cl_hi x
      omega
    · intro h
      exact (cl_id h.1 h.2).symm
  simp only [pxOk, Bool.and_eq_true, key]
/-- The difference of two numbers. -/
def apart (x y : Int) : Int := if x > y then x - y else y - x
theorem apart_eq {x y : Int} (hx : 0 ≤ x) (hx' : x ≤ 65535) (hy : 0 ≤ y) (hy' : y ≤ 65535) : pixel_Dist_1.f x y = some (apart x y) := by
  unfold pixel_Dist_1.f apart mx
  rw [w64 (by omega) (by omega), w64 (by omega) (by omega)]
  congr 1
  split <;> split <;> omega
theorem gap_eq {x y : Int} (hx : 0 ≤ x) (hx' : x ≤ 65535) (hy : 0 ≤ y) (hy' : y ≤ 65535) : imageeditorref06_gap.f x y = some (apart x y) := by
  unfold imageeditorref06_gap.f apart
  rw [w64 (by omega) (by omega), w64 (by omega) (by omega)]
  split <;> rfl
theorem apart_lo (x y : Int) : 0 ≤ apart x y := by unfold apart; split <;> omega
theorem apart_hi {x y : Int} (hx : 0 ≤ x) (hx' : x ≤ 65535) (hy : 0 ≤ y) (hy' : y ≤ 65535) : apart x y ≤ 65535 := by unfold apart; split <;> omega
theorem apart_turn (x y : Int) : apart x y = apart y x := by unfold apart; split <;> split <;> omega
theorem apart_self (x : Int) : apart x x = 0 := by unfold apart; split <;> omega
/-- The distance of two pixels. -/
def dist (a b c d a' b' c' d' : Int) : Int := mx (mx (mx (apart (cl a) (cl a')) (apart (cl b) (cl b'))) (apart (cl c) (cl c'))) (apart (cl d) (cl d'))
theorem apart_cl (x y : Int) : pixel_Dist_1.f (cl x) (cl y) = some (apart (cl x) (cl y)) := apart_eq (cl_lo x) (cl_hi x) (cl_lo y) (cl_hi y)
theorem gap_cl (x y : Int) : imageeditorref06_gap.f (cl x) (cl y) = some (apart (cl x) (cl y)) := gap_eq (cl_lo x) (cl_hi x) (cl_lo y) (cl_hi y)
theorem dist_eq (a b c d a' b' c' d' : Int) : pixel_Dist.f a b c d a' b' c' d' = some (dist a b c d a' b' c' d') := by
  unfold pixel_Dist.f
  simp only [limit_eq, Option.bind_some, apart_cl]
  rfl
theorem rd0 (a b c d : Int) : rd [a, b, c, d] 0 = a := rfl
theorem rd1 (a b c d : Int) : rd [a, b, c, d] 1 = b := rfl
theorem rd2 (a b c d : Int) : rd [a, b, c, d] 2 = c := rfl
theorem rd3 (a b c d : Int) : rd [a, b, c, d] 3 = d := rfl
theorem distLoop (a b c d : Int) (ha : 0 ≤ a) : Ev (fun k => imageeditorref06_Dist.l0 k [a, b, c, d] 0 4 0) (mx (mx (mx a b) c) d) := by
  have st : ∀ (n : Int) (i : Int) (k : Nat), 0 ≤ i → i < 4 → imageeditorref06_Dist.l0 (k + 1) [a, b, c, d] n 4 i = imageeditorref06_Dist.l0 k [a, b, c, d] (mx n (rd [a, b, c, d] i)) 4 (i + 1) := by
    intro n i k h h'
    rw [imageeditorref06_Dist.l0, if_pos h', if_pos h, if_pos (by simpa using h'), w64 (by omega) (by omega)]
    by_cases hm : n < rd [a, b, c, d] i
    · rw [if_pos (by omega), mx, if_pos hm]
    · rw [if_neg (by omega), mx, if_neg hm]
  refine ⟨5, fun k hk => ?_⟩
  obtain ⟨m, rfl⟩ : ∃ m, k = m + 1 + 1 + 1 + 1 + 1 := ⟨k - 5, by omega⟩
  show imageeditorref06_Dist.l0 (m + 1 + 1 + 1 + 1 + 1) [a, b, c, d] 0 4 0 = _
  rw [st _ _ _ (by omega) (by omega), st _ _ _ (by omega) (by omega), st _ _ _ (by omega) (by omega), st _ _ _ (by omega) (by omega)]
  have h0 : mx 0 a = a := by unfold mx; split <;> omega
  show imageeditorref06_Dist.l0 (m + 1) [a, b, c, d] (mx (mx (mx (mx 0 a) b) c) d) 4 4 = _
  rw [h0, imageeditorref06_Dist.l0, if_neg (by omega)]
theorem dist_eq' (a b c d a' b' c' d' : Int) : Ev (fun k => imageeditorref06_Dist.f k a b c d a' b' c' d') (dist a b c d a' b' c' d') := by
  unfold imageeditorref06_Dist.f
  simp only [limit_eq', Option.bind_some, gap_cl]
  exact distLoop _ _ _ _ (apart_lo _ _)
theorem mx_le {a b c : Int} : mx a b ≤ c ↔ a ≤ c ∧ b ≤ c := by unfold mx; split <;> omega
theorem mx_lo {a b : Int} (h : 0 ≤ a) : 0 ≤ mx a b := by unfold mx; split <;> omega
theorem dist_lo (a b c d a' b' c' d' : Int) : 0 ≤ dist a b c d a' b' c' d' := mx_lo (mx_lo (mx_lo (apart_lo _ _)))
theorem dist_hi (a b c d a' b' c' d' : Int) : dist a b c d a' b' c' d' ≤ 65535 := by
  have h : ∀ x y, apart (cl x) (cl y) ≤ 65535 := fun x y => apart_hi (cl_lo x) (cl_hi x) (cl_lo y) (cl_hi y)
  simp only [dist, mx_le, h, and_self]
theorem dist_turn (a b c d a' b' c' d' : Int) : dist a b c d a' b' c' d' = dist a' b' c' d' a b c d := by
  simp only [dist]
  rw [apart_turn (cl a), apart_turn (cl b), apart_turn (cl c), apart_turn (cl d)]
theorem dist_self (a b c d : Int) : dist a b c d a b c d = 0 := by simp [dist, apart_self, mx]
/-- Distance 0: the limited values are equal. -/
theorem dist_zero (a b c d a' b' c' d' : Int) : dist a b c d a' b' c' d' ≤ 0 ↔ cl a = cl a' ∧ cl b = cl b' ∧ cl c = cl c' ∧ cl d = cl d' := by
  have h : ∀ x y : Int, apart x y ≤ 0 ↔ x = y := by intro x y; unfold apart; split <;> omega
  simp only [dist, mx_le, h, and_assoc]

/-! ### Check -/
def pxOkS (p : S37) : Bool := pxOk p.f0 p.f1 p.f2 p.f3
def sidesOk (a b : Int) : Bool := decide (0 ≤ a ∧ a ≤ 256 ∧ 0 ≤ b ∧ b ≤ 256 ∧ (a = 0 ↔ b = 0))
/-- The error of an image: 15 (size), 2 (range) or 0. -/
def chk (a b : Int) (l : List S37) : Int := if sidesOk a b = true ∧ (l.length : Int) = a * b then (if l.all pxOkS = true then 0 else 2) else 15
theorem sides_eq (a b : Int) : raster_sides.f a b = some (if sidesOk a b = true then 0 else 15) := by
  unfold raster_sides.f sidesOk
  have key : ((a == 0) != (b == 0)) = true ↔ ¬ (a = 0 ↔ b = 0) := by
    rw [show (a == 0) = decide (a = 0) from rfl, show (b == 0) = decide (b = 0) from rfl]
    by_cases h : a = 0 <;> by_cases h' : b = 0 <;> simp [h, h']
  simp only [key, decide_eq_true_eq]
  split
  · rw [if_neg (by omega)]
  split
  · rw [if_neg (by omega)]
  split
  · rw [if_neg (by omega)]
  split
  · rw [if_neg (by omega)]
  split
  · rename_i h
    rw [if_neg (fun h' => h h'.2.2.2.2)]
  · rename_i h1 h2 h3 h4 h
    rw [if_pos ⟨by omega, by omega, by omega, by omega, Decidable.not_not.1 h⟩]
theorem rd_get (l : List S37) (i : Nat) (h : i < l.length) : rd_T37 l (i : Int) = l[i] := by
  simp [rd_T37, List.getD_eq_getElem?_getD, List.getElem?_eq_getElem h]
theorem checkLoop (l : List S37) (hl : (l.length : Int) ≤ 65536) : ∀ (n i : Nat), i + n = l.length → Ev (fun k => raster_Check.l0 k l (l.length : Int) (i : Int)) (if (l.drop i).all pxOkS = true then 0 else 2) := by
  intro n
  induction n with
  | zero =>
    intro i hi
    refine .step (f := fun _ => some 0) (fun k => by rw [raster_Check.l0, if_neg (by omega)]) ?_
    rw [List.drop_eq_nil_of_le (by omega), if_pos (by rfl)]
    exact .now _
  | succ n ih =>
    intro i hi
    have hd : l.drop i = l[i] :: l.drop (i + 1) := List.drop_eq_getElem_cons (by omega)
    rw [hd, List.all_cons]
    refine .step (fun k => by rw [raster_Check.l0, if_pos (by omega), if_pos (by omega), if_pos (by omega), valid_eq, Option.bind_some, rd_get l i (by omega), w64 (by omega) (by omega)]) ?_
    cases hp : pxOkS l[i] with
    | false =>
      have hp' : pxOk l[i].f0 l[i].f1 l[i].f2 l[i].f3 = false := hp
      simp only [hp', Bool.false_and]
      exact .now _
    | true =>
      have hp' : pxOk l[i].f0 l[i].f1 l[i].f2 l[i].f3 = true := hp
      simp only [hp', Bool.true_and, if_true]
      exact ih (i + 1) (by omega)
theorem checkLoop' (a b : Int) (l : List S37) (hl : (l.length : Int) ≤ 65536) : ∀ (n i : Nat), i + n = l.length → Ev (fun k => imageeditorref11_Check.l0 k (i : Int) a b l) (if (l.drop i).all pxOkS = true then 0 else 2) := by
  intro n
  induction n with
  | zero =>
    intro i hi
    refine .step (f := fun _ => some 0) (fun k => by rw [imageeditorref11_Check.l0, if_neg (by omega)]) ?_
    rw [List.drop_eq_nil_of_le (by omega), if_pos (by rfl)]
    exact .now _
  | succ n ih =>
    intro i hi
    have hd : l.drop i = l[i] :: l.drop (i + 1) := List.drop_eq_getElem_cons (by omega)
    rw [hd, List.all_cons]
    refine .step (fun k => by rw [imageeditorref11_Check.l0, if_pos (by omega), if_pos (by omega), valid_eq', Option.bind_some, rd_get l i (by omega), w64 (by omega) (by omega)]) ?_
    cases hp : pxOkS l[i] with
    | false =>
      have hp' : pxOk l[i].f0 l[i].f1 l[i].f2 l[i].f3 = false := hp
      simp only [hp', Bool.false_and]
      exact .now _
    | true =>
      have hp' : pxOk l[i].f0 l[i].f1 l[i].f2 l[i].f3 = true := hp
      simp only [hp', Bool.true_and, if_true]
      exact ih (i + 1) (by omega)
theorem sidesOk_iff (a b : Int) : sidesOk a b = true ↔ 0 ≤ a ∧ a ≤ 256 ∧ 0 ≤ b ∧ b ≤ 256 ∧ (a = 0 ↔ b = 0) := by simp only [sidesOk, decide_eq_true_eq]
theorem area {a b : Int} (h : sidesOk a b = true) : 0 ≤ a * b ∧ a * b ≤ 65536 := by
  rw [sidesOk_iff] at h
  refine ⟨Int.mul_nonneg h.1 h.2.2.1, ?_⟩
  have := Int.mul_le_mul h.2.1 h.2.2.2.1 h.2.2.1 (by omega : (0 : Int) ≤ 256)
  omega
theorem check_eq (a b : Int) (l : List S37) : Ev (fun k => raster_Check.f k a b l) (chk a b l) := by
  unfold raster_Check.f chk
  simp only [sides_eq, Option.bind_some]
  cases hs : sidesOk a b with
  | false =>
    simp only [Bool.false_eq_true, if_false, false_and, show ((15 : Int) = 0) = False from by simp]
    exact .step (f := fun _ => some 15) (fun k => by rw [raster_Check.j0, if_pos rfl]) (.now _)
  | true =>
    have ha := area hs
    simp only [if_true, true_and, w64 (show -9223372036854775808 ≤ a * b by omega) (by omega)]
    by_cases hl : (l.length : Int) = a * b
    · rw [if_pos hl]
      refine .step (fun k => by rw [raster_Check.j0, if_neg (by simp [hl])]) ?_
      simpa using checkLoop l (by omega) l.length 0 (by omega)
    · rw [if_neg hl]
      exact .step (f := fun _ => some 15) (fun k => by rw [raster_Check.j0, if_pos (by simpa using hl)]) (.now _)
theorem check_eq' (a b : Int) (l : List S37) : Ev (fun k => imageeditorref11_Check.f k a b l) (chk a b l) := by
  have bad : Ev (fun k => imageeditorref11_Check.j0 k true a b l) 15 := .step (f := fun _ => some 15) (fun k => by rw [imageeditorref11_Check.j0, if_pos rfl]) (.now _)
  have key : ((a == 0) != (b == 0)) = true ↔ ¬ (a = 0 ↔ b = 0) := by
    rw [show (a == 0) = decide (a = 0) from rfl, show (b == 0) = decide (b = 0) from rfl]
    by_cases h : a = 0 <;> by_cases h' : b = 0 <;> simp [h, h']
  unfold imageeditorref11_Check.f chk
  cases hs : sidesOk a b with
  | false =>
    have hs' : ¬ (0 ≤ a ∧ a ≤ 256 ∧ 0 ≤ b ∧ b ≤ 256 ∧ (a = 0 ↔ b = 0)) := by rw [← sidesOk_iff, hs]; simp
    rw [if_neg (by simp)]
    by_cases h1 : a < 0
    · simp only [if_pos h1]; exact bad
    by_cases h2 : a > 256
    · simp only [if_neg h1, if_pos h2]; exact bad
    by_cases h3 : b < 0
    · simp only [if_neg h1, if_neg h2, if_pos h3]; exact bad
    simp only [if_neg h1, if_neg h2, if_neg h3]
    by_cases h4 : b > 256
    · simp only [h4, decide_true]; exact bad
    simp only [h4, decide_false]
    refine .step (fun k => by rw [imageeditorref11_Check.j0, if_neg (by simp), if_pos (key.2 (fun h => hs' ⟨by omega, by omega, by omega, by omega, h⟩))]) ?_
    exact .step (f := fun _ => some 15) (fun k => by rw [imageeditorref11_Check.j1, if_pos rfl]) (.now _)
  | true =>
    have ha := area hs
    have hs' := (sidesOk_iff a b).1 hs
    simp only [if_neg (show ¬ a < 0 by omega), if_neg (show ¬ a > 256 by omega), if_neg (show ¬ b < 0 by omega), show ¬ b > 256 by omega, decide_false, true_and]
    refine .step (fun k => by rw [imageeditorref11_Check.j0, if_neg (by simp), if_neg (fun h => key.1 h hs'.2.2.2.2), w64 (by omega) (by omega)]) ?_
    by_cases hl : (l.length : Int) = a * b
    · rw [if_pos hl]
      refine .step (fun k => by rw [imageeditorref11_Check.j1, if_neg (by simp [hl])]) ?_
      simpa using checkLoop' a b l (by omega) l.length 0 (by omega)
    · rw [if_neg hl]
      exact .step (f := fun _ => some 15) (fun k => by rw [imageeditorref11_Check.j1, if_pos (by simpa using hl)]) (.now _)
/-- An image without error. -/
theorem chk_ok {a b : Int} {l : List S37} (h : chk a b l = 0) : sidesOk a b = true ∧ (l.length : Int) = a * b ∧ l.all pxOkS = true := by
  unfold chk at h
  split at h
  · rename_i h'
    split at h
    · rename_i h''
      exact ⟨h'.1, h'.2, h''⟩
    · omega
  · omega
end Go.Proofs.Ytmmncannibnklaa.Pure
