/- The examples hold, and a mask is the same as itself. No conditions. -/
import Derived.Test.YtmmncannibnklaaPFloodR
import Derived.Test.YtmmncannibnklaaG8
import Derived.Test.YtmmncannibnklaaG11
namespace Go.Proofs.Ytmmncannibnklaa.Pure
open Go.RowKit Go.Proofs.YtmmncannibnklaaW.PrintWords Go.Proofs.YtmmncannibnklaaW.PrintLast Go.Proofs.YtmmncannibnklaaW.PrintMore Go.Proofs.Ytmmncannibnklaa.G
set_option linter.unusedVariables false
set_option linter.unusedSimpArgs false
theorem awake_eq : Ev (fun k => imageeditorlaw24_awake.f k) true := .of imageeditorlaw24_awake.mono imageeditorlaw24_awake.known
theorem sameLoop (V : List Int) (hV : (V.length : Int) ≤ 65536) (W H W' H' : Int) : ∀ (n i : Nat), i + n = V.length → Ev (fun k => imageeditorlaw24_same.l0 k (V.length : Int) (i : Int) W H V W' H' V) true := by
  intro n
  induction n with
  | zero => intro i hi; exact .step (f := fun _ => some true) (fun k => by rw [imageeditorlaw24_same.l0, if_neg (by omega)]) (.now _)
  | succ n ih =>
    intro i hi
    refine .step (fun k => by rw [imageeditorlaw24_same.l0, if_pos (by omega), if_pos (by omega), if_pos (by omega), if_pos (by omega), if_pos rfl, w64 (by omega) (by omega)]) ?_
    exact ih (i + 1) (by omega)
theorem same_eq (V : List Int) (hV : (V.length : Int) ≤ 65536) (W H : Int) : Ev (fun k => imageeditorlaw24_same.f k W H V W H V) true := by
  unfold imageeditorlaw24_same.f
  simp only [if_true]
  refine .step (fun k => by rw [imageeditorlaw24_same.j0, if_neg (by simp)]) ?_
  exact sameLoop V hV W H W H V.length 0 (by omega)
theorem Floods.small {W H : Int} {l : List S37} {ax ay tol : Int} {diag : Bool} {r : Int × Int × List Int × Int} (h : Floods W H l ax ay tol diag r) : (r.2.2.1.length : Int) ≤ 65536 := by
  by_cases h1 : chk W H l = 0
  · by_cases h2 : Ins W H ax ay ∧ 0 ≤ tol ∧ tol ≤ 65535
    · obtain ⟨V, rfl, f⟩ := h.good h1 h2
      have := f.len
      have := area (chk_ok h1).1
      show (V.length : Int) ≤ 65536
      omega
    · rw [h.out h1 h2]; decide
  · rw [h.bad h1]; simp
end Go.Proofs.Ytmmncannibnklaa.Pure
