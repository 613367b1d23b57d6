/- The examples hold, and a mask is the same as itself. No conditions. -/
import Derived.Test.YtmmncannibnklaaPBase
import Derived.Test.YtmmncannibnklaaG10
import Derived.Test.YtmmncannibnklaaG14
namespace Go.Proofs.Ytmmncannibnklaa.Pure
open Go.RowKit Go.Proofs.YtmmncannibnklaaW.PrintWords Go.Proofs.YtmmncannibnklaaW.PrintLast Go.Proofs.YtmmncannibnklaaW.PrintMore Go.Proofs.Ytmmncannibnklaa.G
set_option linter.unusedVariables false
set_option linter.unusedSimpArgs false
theorem awake_eq : Ev (fun k => imageeditorlaw24_awake.f k) true := .of imageeditorlaw24_awake.mono imageeditorlaw24_awake.known
theorem sameLoop (V : List Int) (hV : (V.length : Int) ≤ 65536) (W H W' H' : Int) : ∀ (n i : Nat), i + n = V.length → Ev (fun k => imageeditorlaw24_same.l0 k (V.length : Int) (i : Int) W H V W' H' V) true := by
  intro n
  induction n with
  | zero => intro i hi; exact .step (f := fun _ => some true) (fun k => by rw [imageeditorlaw24_same.l0, if_neg (by omega)]) (.now _)
  | succ n ih =>
    intro i hi
    refine .step (fun k => by rw [imageeditorlaw24_same.l0, if_pos (by omega), if_pos (by omega), if_pos (by omega), if_pos (by omega), if_pos rfl, w64 (by omega) (by omega)]) ?_
    exact ih (i + 1) (by omega)
theorem same_eq (V : List Int) (hV : (V.length : Int) ≤ 65536) (W H : Int) : Ev (fun k => imageeditorlaw24_same.f k W H V W H V) true := by
  unfold imageeditorlaw24_same.f
  simp only [if_true]
  refine .step (fun k => by rw [imageeditorlaw24_same.j0, if_neg (by simp)]) ?_
  exact sameLoop V hV W H W H V.length 0 (by omega)
theorem unit_eq (a : Int) : wand_isUnit.f a = some (decide (0 ≤ a ∧ a ≤ 65535)) := by
  unfold wand_isUnit.f
  by_cases h : a ≥ 0
  · rw [if_pos h]; simp [show 0 ≤ a from h]
  · rw [if_neg h]; simp [show ¬ 0 ≤ a from h]
theorem unit_eq' (a : Int) : imageeditorref24_unit.f a = some (decide (0 ≤ a ∧ a ≤ 65535)) := unit_eq a
def distS (p q : S37) : Int := dist p.f0 p.f1 p.f2 p.f3 q.f0 q.f1 q.f2 q.f3
end Go.Proofs.Ytmmncannibnklaa.Pure
