/- RasterSames in plain words: Same computes what the specification computes, and an image is the same as itself. For every two images. -/
import Derived.Test.YtjepbimgddgijaaPAll
import Derived.Test.YtjepbimgddgijaaG16
namespace Go.Proofs.Ytjepbimgddgijaa.Pure
open Go.RowKit Go.Proofs.YtjepbimgddgijaaW.PrintWords Go.Proofs.YtjepbimgddgijaaW.PrintLast Go.Proofs.YtjepbimgddgijaaW.PrintMore Go.Proofs.Ytjepbimgddgijaa.G
set_option linter.unusedVariables false
set_option linter.unusedSimpArgs false

def pixEq (p q : S26) : Bool := p.f0 == q.f0 && (p.f1 == q.f1 && (p.f2 == q.f2 && p.f3 == q.f3))
theorem pixEq_not (p q : S26) : (!(p.f0 == q.f0) || (!(p.f1 == q.f1) || (!(p.f2 == q.f2) || (!(p.f3 == q.f3))))) = !pixEq p q := by simp only [pixEq, Bool.not_and]
/-- Whether the pixels from a number on are equal. -/
def allEq : Nat → Nat → List S26 → List S26 → Bool
  | 0, _, _, _ => true
  | m + 1, i, a, b => pixEq (rd_T26 a (i : Int)) (rd_T26 b (i : Int)) && allEq m (i + 1) a b
theorem sLoop1 (a b : List S26) (ha : a.length ≤ maxLen) (hb : a.length = b.length) (U V : Int) : ∀ (m i : Nat), i + m = a.length → Ev (fun k => raster_Same.l0 k a (a.length : Int) (i : Int) U V b) (allEq m i a b) := by
  have hm : (maxLen : Int) = 9223372036854775807 := rfl
  intro m
  induction m with
  | zero => intro i hi; exact .step (f := fun _ => some true) (fun k => by rw [raster_Same.l0, if_neg (by omega)]) (.now _)
  | succ m ih =>
    intro i hi
    refine .step (fun k => by rw [raster_Same.l0, if_pos (by omega), if_pos (by omega), if_pos (by omega), if_pos (by omega), pixEq_not, w64 (by omega) (by omega)]) ?_
    rw [allEq]
    cases pixEq (rd_T26 a (i : Int)) (rd_T26 b (i : Int)) with
    | false => exact .now _
    | true => exact ih (i + 1) (by omega)
theorem sLoop2 (a b : List S26) (ha : a.length ≤ maxLen) (hb : a.length = b.length) (U V U' V' : Int) : ∀ (m i : Nat), i + m = a.length → Ev (fun k => imageeditorref11_Same.l0 k (i : Int) U V a U' V' b) (allEq m i a b) := by
  have hm : (maxLen : Int) = 9223372036854775807 := rfl
  intro m
  induction m with
  | zero => intro i hi; exact .step (f := fun _ => some true) (fun k => by rw [imageeditorref11_Same.l0, if_neg (by omega)]) (.now _)
  | succ m ih =>
    intro i hi
    refine .step (fun k => by rw [imageeditorref11_Same.l0, if_pos (by omega), if_pos (by omega), if_pos (by omega), pixEq_not, w64 (by omega) (by omega)]) ?_
    rw [allEq]
    cases pixEq (rd_T26 a (i : Int)) (rd_T26 b (i : Int)) with
    | false => exact .now _
    | true => exact ih (i + 1) (by omega)
def sameR (U V : Int) (a : List S26) (U' V' : Int) (b : List S26) : Bool := if U = U' ∧ V = V' ∧ a.length = b.length then allEq a.length 0 a b else false
theorem same1 (U V : Int) (a : List S26) (U' V' : Int) (b : List S26) (ha : a.length ≤ maxLen) : Ev (fun k => raster_Same.f k U V a U' V' b) (sameR U V a U' V' b) := by
  have bad : Ev (fun k => raster_Same.j0 k true U V a U' V' b) false := .step (f := fun _ => some false) (fun k => by rw [raster_Same.j0, if_pos rfl]) (.now _)
  unfold raster_Same.f sameR
  by_cases h1 : U = U'
  case neg => simp only [if_neg h1, h1, false_and, if_false]; exact bad
  subst h1
  by_cases h2 : V = V'
  case neg => simp only [if_neg h2, h2, false_and, and_false, if_true, if_false]; exact bad
  subst h2
  simp only [if_true, true_and]
  by_cases h3 : a.length = b.length
  case neg =>
    have e : ((a.length : Int) != (b.length : Int)) = true := by rw [bne_iff_ne]; omega
    simp only [if_neg h3, e]
    exact bad
  have e : ((a.length : Int) != (b.length : Int)) = false := by rw [bne_eq_false_iff_eq]; omega
  simp only [if_pos h3, e]
  refine .step (fun k => by rw [raster_Same.j0, if_neg (by simp)]) ?_
  exact sLoop1 a b ha h3 _ _ a.length 0 (by omega)
theorem same2 (U V : Int) (a : List S26) (U' V' : Int) (b : List S26) (ha : a.length ≤ maxLen) : Ev (fun k => imageeditorref11_Same.f k U V a U' V' b) (sameR U V a U' V' b) := by
  have bad : Ev (fun k => imageeditorref11_Same.j0 k true U V a U' V' b) false := .step (f := fun _ => some false) (fun k => by rw [imageeditorref11_Same.j0, if_pos rfl]) (.now _)
  unfold imageeditorref11_Same.f sameR
  by_cases h1 : U = U'
  case neg => simp only [if_neg h1, h1, false_and, if_false]; exact bad
  subst h1
  by_cases h2 : V = V'
  case neg => simp only [if_neg h2, h2, false_and, and_false, if_true, if_false]; exact bad
  subst h2
  simp only [if_true, true_and]
  by_cases h3 : a.length = b.length
  case neg =>
    have e : ((a.length : Int) != (b.length : Int)) = true := by rw [bne_iff_ne]; omega
    simp only [if_neg h3, e]
    exact bad
  have e : ((a.length : Int) != (b.length : Int)) = false := by rw [bne_eq_false_iff_eq]; omega
  simp only [if_pos h3, e]
  refine .step (fun k => by rw [imageeditorref11_Same.j0, if_neg (by simp)]) ?_
  exact sLoop2 a b ha h3 _ _ _ _ a.length 0 (by omega)
theorem allEq_self (a : List S26) : ∀ (m i : Nat), allEq m i a a = true := by
  intro m
  induction m with
  | zero => intro i; rfl
  | succ m ih => intro i; rw [allEq, ih]; simp [pixEq]
theorem RasterSames : ∀ (a0_0 : Int) (a0_1 : Int) (a0_2 : List S26) (a1_0 : Int) (a1_1 : Int) (a1_2 : List S26), ((Lit.int .i64 a0_0).wf = true ∧ (Lit.int .i64 a0_1).wf = true ∧ (a0_2.length ≤ maxLen ∧ ∀ x ∈ a0_2, (Lit.int .i64 x.f0).wf = true ∧ (Lit.int .i64 x.f1).wf = true ∧ (Lit.int .i64 x.f2).wf = true ∧ (Lit.int .i64 x.f3).wf = true)) → ((Lit.int .i64 a1_0).wf = true ∧ (Lit.int .i64 a1_1).wf = true ∧ (a1_2.length ≤ maxLen ∧ ∀ x ∈ a1_2, (Lit.int .i64 x.f0).wf = true ∧ (Lit.int .i64 x.f1).wf = true ∧ (Lit.int .i64 x.f2).wf = true ∧ (Lit.int .i64 x.f3).wf = true)) → ∃ k, imageeditorlaw11_RasterSames.f k a0_0 a0_1 a0_2 a1_0 a1_1 a1_2 = some true := by
  intro U V a U' V' b ga gb
  refine Ev.rounds (awake_eq.bind ?_)
  simp only [if_true]
  refine (same1 U V a U' V' b ga.2.2.1).bind ((same2 U V a U' V' b ga.2.2.1).bind ?_)
  simp only [beq_self_eq_true, if_true]
  have := same1 U' V' b U' V' b gb.2.2.1
  rw [sameR, if_pos ⟨rfl, rfl, rfl⟩, allEq_self] at this
  exact this.bind (.now _)
end Go.Proofs.Ytjepbimgddgijaa.Pure
