/- Rectangles: Within, Grow and Meet, of the program and of the specification, for rectangles that are valid and lie within each other. No conditions but those that each lemma names. -/
import Derived.Test.YtapdifpmijgkcaaPDivP
import Derived.Test.YtapdifpmijgkcaaG1
import Derived.Test.YtapdifpmijgkcaaG11
import Derived.Test.YtapdifpmijgkcaaG16
namespace Go.Proofs.Ytapdifpmijgkcaa.Pure
open Go.RowKit Go.Proofs.YtapdifpmijgkcaaW.PrintWords Go.Proofs.YtapdifpmijgkcaaW.PrintLast Go.Proofs.YtapdifpmijgkcaaW.PrintMore Go.Proofs.Ytapdifpmijgkcaa.G
set_option linter.unusedVariables false
set_option linter.unusedSimpArgs false
def validR (x y w h : Int) : Bool := decide (-1048576 ≤ x ∧ x ≤ 1048576 ∧ 0 ≤ w ∧ w ≤ 1048576 - x ∧ -1048576 ≤ y ∧ y ≤ 1048576 ∧ 0 ≤ h ∧ h ≤ 1048576 - y)
theorem span_eq (a b : Int) : rect_span.f a b = some (decide (-1048576 ≤ a ∧ a ≤ 1048576 ∧ 0 ≤ b ∧ b ≤ 1048576 - a)) := by
  unfold rect_span.f
  by_cases c1 : a ≥ -1048576
  case neg => rw [if_neg c1, decide_eq_false (by omega)]
  by_cases c2 : a ≤ 1048576
  case neg => rw [if_pos c1, if_neg c2, decide_eq_false (by omega)]
  by_cases c3 : b ≥ 0
  case neg => rw [if_pos c1, if_pos c2, if_neg c3, decide_eq_false (by omega)]
  rw [if_pos c1, if_pos c2, if_pos c3, w64 (by omega) (by omega)]
  congr 1
  exact decide_eq_decide.2 (by omega)
theorem rvalid_eq (x y w h : Int) : rect_Valid.f x y w h = some (validR x y w h) := by
  unfold rect_Valid.f
  rw [span_eq, Option.bind_some, span_eq, Option.bind_some]
  by_cases c : -1048576 ≤ x ∧ x ≤ 1048576 ∧ 0 ≤ w ∧ w ≤ 1048576 - x
  case neg => rw [if_neg (by simpa using c), validR, decide_eq_false (by omega)]
  rw [if_pos (by simpa using c), validR]
  congr 1
  exact decide_eq_decide.2 (by omega)
theorem rempty_eq (x y w h : Int) (hv : validR x y w h = true) : rect_Empty.f x y w h = some (decide (w = 0 ∨ h = 0)) := by
  unfold rect_Empty.f rect_known.f
  rw [rvalid_eq, Option.bind_some, if_pos hv, Option.bind_some]
  by_cases c : w = 0
  · simp [c]
  · simp only [if_neg c, c, false_or]
    rfl
theorem known_eq {x y w h : Int} (hv : validR x y w h = true) : rect_known.f x y w h = some (x, y, w, h) := by
  unfold rect_known.f
  rw [rvalid_eq, Option.bind_some, if_pos hv]
theorem valid_f {x y w h : Int} (hv : validR x y w h = true) : -1048576 ≤ x ∧ x ≤ 1048576 ∧ 0 ≤ w ∧ x + w ≤ 1048576 ∧ -1048576 ≤ y ∧ y ≤ 1048576 ∧ 0 ≤ h ∧ y + h ≤ 1048576 := by
  simp only [validR, decide_eq_true_eq] at hv
  omega
theorem valid_m {x y w h : Int} (hv : -1048576 ≤ x ∧ x ≤ 1048576 ∧ 0 ≤ w ∧ x + w ≤ 1048576 ∧ -1048576 ≤ y ∧ y ≤ 1048576 ∧ 0 ≤ h ∧ y + h ≤ 1048576) : validR x y w h = true := by
  simp only [validR, decide_eq_true_eq]
  omega
/-- The first rectangle, not empty, lies in the second. -/
def winR (x y w h X Y W H : Int) : Bool := decide (X ≤ x ∧ Y ≤ y ∧ x + w ≤ X + W ∧ y + h ≤ Y + H)
section
variable {x y w h X Y W H : Int} (hv : validR x y w h = true) (hw : w ≠ 0) (hh : h ≠ 0) (hV : validR X Y W H = true)
include hv hw hh hV
end
/-- The ends of a side that has grown, cut to the world. -/
def g0 (x n : Int) : Int := mx (x - n) (-1048576)
def g1 (x w n : Int) : Int := mn (x + w + n) 1048576
def growR (x y w h n : Int) : Int × Int × Int × Int := (g0 x n, g0 y n, g1 x w n - g0 x n, g1 y h n - g0 y n)
theorem g_b {x w n : Int} (h1 : -1048576 ≤ x) (h2 : 0 < w) (h3 : x + w ≤ 1048576) (h4 : 0 ≤ n) : -1048576 ≤ g0 x n ∧ g0 x n ≤ x ∧ x + w ≤ g1 x w n ∧ g1 x w n ≤ 1048576 := by
  unfold g0 g1 mx mn
  split <;> split <;> omega
section
variable {x y w h n : Int} (hv : validR x y w h = true) (hw : w ≠ 0) (hh : h ≠ 0) (hn : 1 ≤ n) (hn' : n ≤ 100)
include hv hw hh hn hn'
theorem grow_eq : Ev (fun k => rect_Grow.f k x y w h n) (growR x y w h n) := by
  have f := valid_f hv
  have lim : rect_limit.f n = some n := by
    unfold rect_limit.f
    congr 1
    unfold mn mx
    split <;> split <;> omega
  obtain ⟨a1, a2, a3, a4⟩ := g_b (x := x) (w := w) (n := n) (by omega) (by omega) (by omega) (by omega)
  obtain ⟨b1, b2, b3, b4⟩ := g_b (x := y) (w := h) (n := n) (by omega) (by omega) (by omega) (by omega)
  have e0 : wrap64 (2 * n) = 2 * n := w64 (by omega) (by omega)
  have e1 : wrap64 (w + 2 * n) = w + 2 * n := w64 (by omega) (by omega)
  have e2 : wrap64 (h + 2 * n) = h + 2 * n := w64 (by omega) (by omega)
  have e3 : wrap64 (x - n) = x - n := w64 (by omega) (by omega)
  have e4 : wrap64 (y - n) = y - n := w64 (by omega) (by omega)
  have e5 : wrap64 (x - n + (w + 2 * n)) = x + w + n := by rw [w64 (by omega) (by omega)]; omega
  have e6 : wrap64 (y - n + (h + 2 * n)) = y + h + n := by rw [w64 (by omega) (by omega)]; omega
  have e7 : wrap64 (-1048576 + 2097152) = 1048576 := by rw [w64 (by omega) (by omega)]; rfl
  unfold rect_Grow.f
  simp only [lim, Option.bind_some, rempty_eq _ _ _ _ hv, decide_eq_false (show ¬ (w = 0 ∨ h = 0) by omega), Bool.false_eq_true, if_false, e0, e1, e2, if_neg (show ¬ w + 2 * n ≤ 0 by omega), decide_eq_false (show ¬ h + 2 * n ≤ 0 by omega)]
  refine .step (f := fun _ => some (growR x y w h n)) (fun k => ?_) (.now _)
  rw [rect_Grow.j0, if_neg (by simp)]
  simp only [rect_world.f, rect_meet.f, rect_between.f, Option.bind_some, e0, e1, e2, e3, e4, e5, e6, e7]
  rw [show mx (x - n) (-1048576) = g0 x n from rfl, show mx (y - n) (-1048576) = g0 y n from rfl, show mn (x + w + n) 1048576 = g1 x w n from rfl, show mn (y + h + n) 1048576 = g1 y h n from rfl, if_neg (by omega), if_neg (by omega)]
  simp only [Option.bind_some]
  rw [w64 (x := g1 x w n - g0 x n) (by omega) (by omega), w64 (x := g1 y h n - g0 y n) (by omega) (by omega)]
  rfl
end
section
variable {x y w h X Y W H : Int} (hv : validR x y w h = true) (hV : validR X Y W H = true) (h1 : mx x X < mn (x + w) (X + W)) (h2 : mx y Y < mn (y + h) (Y + H))
include hv hV h1 h2
theorem meet_eq : rect_Meet.f x y w h X Y W H = some (mx x X, mx y Y, mn (x + w) (X + W) - mx x X, mn (y + h) (Y + H) - mx y Y) := by
  have f := valid_f hv
  have F := valid_f hV
  have b : ∀ a b c d : Int, -1048576 ≤ a → a ≤ 1048576 → -1048576 ≤ b → b ≤ 1048576 → -1048576 ≤ c → c ≤ 1048576 → -1048576 ≤ d → d ≤ 1048576 → wrap64 (mn c d - mx a b) = mn c d - mx a b := by
    intro a b c d _ _ _ _ _ _ _ _
    refine w64 ?_ ?_ <;> unfold mn mx <;> split <;> split <;> omega
  unfold rect_Meet.f
  rw [known_eq hv, Option.bind_some, known_eq hV, Option.bind_some]
  simp only [rect_meet.f, rect_between.f, w64 (show -9223372036854775808 ≤ x + w by omega) (by omega), w64 (show -9223372036854775808 ≤ X + W by omega) (by omega), w64 (show -9223372036854775808 ≤ y + h by omega) (by omega), w64 (show -9223372036854775808 ≤ Y + H by omega) (by omega)]
  rw [if_neg (by omega), if_neg (by omega)]
  simp only [Option.bind_some]
  rw [b x X (x + w) (X + W) (by omega) (by omega) (by omega) (by omega) (by omega) (by omega) (by omega) (by omega), b y Y (y + h) (Y + H) (by omega) (by omega) (by omega) (by omega) (by omega) (by omega) (by omega) (by omega)]
end
end Go.Proofs.Ytapdifpmijgkcaa.Pure
