/- RasterChecks in plain words: Check and New compute what the specification computes. For every image, size and pixel. -/
import Derived.Test.YtjepbimgddgijaaPAll
import Derived.Test.YtjepbimgddgijaaG14
namespace Go.Proofs.Ytjepbimgddgijaa.Pure
open Go.RowKit Go.Proofs.YtjepbimgddgijaaW.PrintWords Go.Proofs.YtjepbimgddgijaaW.PrintLast Go.Proofs.YtjepbimgddgijaaW.PrintMore Go.Proofs.Ytjepbimgddgijaa.G
set_option linter.unusedVariables false
set_option linter.unusedSimpArgs false

section
variable (w h : Nat) (hw : w ≤ 256) (hh : h ≤ 256) (p : S26)
include hw hh
theorem new_fill : Ev (fun k => raster_fill__raster_New_1.f k (w : Int) (h : Int) p.f0 p.f1 p.f2 p.f3) ((w : Int), (h : Int), fillL w (h * w) (fun _ _ => p)) := by
  have ha := Nat.mul_le_mul hw hh
  have e : wrap64 ((w : Int) * (h : Int)) = ((w * h : Nat) : Int) := by rw [← Int.natCast_mul]; exact w64 (by omega) (by omega)
  unfold raster_fill__raster_New_1.f
  simp only [e, if_pos (show 0 ≤ ((w * h : Nat) : Int) by omega), if_pos (show (((w * h : Nat) : Int)).toNat ≤ 8796093022208 by omega)]
  refine rows_abs w h (fun _ _ => p) hw hh (fun k y acc => raster_fill__raster_New_1.l0 k (w : Int) (h : Int) y p.f0 p.f1 p.f2 p.f3 (w : Int) (h : Int) acc) (fun k y x acc => raster_fill__raster_New_1.l1 k (w : Int) y (h : Int) y (w : Int) x p.f0 p.f1 p.f2 p.f3 (w : Int) (h : Int) acc) (fun acc => ((w : Int), (h : Int), acc)) ?_ ?_ ?_ ?_
  · intro y acc r hy hE
    exact .step (fun k => by rw [raster_fill__raster_New_1.l0, if_pos (by omega)]) hE
  · intro y x acc r hy hx hacc hE
    exact .step (fun k => by rw [raster_fill__raster_New_1.l1, if_pos (by omega), raster_New_1.f, Option.bind_some, if_pos (by omega), w64 (by omega) (by omega)]) hE
  · intro y acc r hy hE
    exact .step (fun k => by rw [raster_fill__raster_New_1.l1, if_neg (by omega), w64 (by omega) (by omega)]) hE
  · intro acc
    exact .step (fun k => by rw [raster_fill__raster_New_1.l0, if_neg (by omega)]) (.now _)
omit hw hh in
theorem fillL_const (w n : Nat) (p : S26) : fillL w n (fun _ _ => p) = List.replicate n p := by
  unfold fillL
  rw [List.map_const', List.length_range]
theorem newLoop : ∀ (m i : Nat), i + m = w * h → Ev (fun k => imageeditorref11_New.l0 k (w : Int) (h : Int) (i : Int) p.f0 p.f1 p.f2 p.f3 (w : Int) (h : Int) (List.replicate i p)) ((w : Int), (h : Int), List.replicate (w * h) p, 0) := by
  have ha := Nat.mul_le_mul hw hh
  have e : wrap64 ((w : Int) * (h : Int)) = ((w * h : Nat) : Int) := by rw [← Int.natCast_mul]; exact w64 (by omega) (by omega)
  intro m
  induction m with
  | zero =>
    intro i hi
    obtain rfl : i = w * h := by omega
    exact .step (fun k => by rw [imageeditorref11_New.l0, e, if_neg (by omega)]) (.now _)
  | succ m ih =>
    intro i hi
    refine .step (fun k => by rw [imageeditorref11_New.l0, e, if_pos (by omega), if_pos (by rw [List.length_replicate]; omega), w64 (by omega) (by omega)]) ?_
    have := ih (i + 1) (by omega)
    rw [List.replicate_succ'] at this
    exact this
end
def newR (W H : Int) (p : S26) : Res := if sidesOk W H = true then (if pxOk p.f0 p.f1 p.f2 p.f3 = true then (W, H, List.replicate (W * H).toNat p, 0) else (0, 0, [], 2)) else (0, 0, [], 15)
theorem new_eq (W H : Int) (p : S26) : Ev (fun k => raster_New.f k W H p.f0 p.f1 p.f2 p.f3) (newR W H p) := by
  unfold raster_New.f newR
  simp only [sides_eq, valid_eq, Option.bind_some]
  by_cases hs : sidesOk W H = true
  case neg => simp only [if_neg hs, show ((15 : Int) = 0) = False from by simp, if_false]; exact .now _
  simp only [if_pos hs, if_true]
  by_cases hp : pxOk p.f0 p.f1 p.f2 p.f3 = true
  case neg => simp only [if_neg hp]; exact .now _
  simp only [if_pos hp]
  obtain ⟨w, h, rfl, rfl, hw, hh, _⟩ := nats hs
  have := new_fill w h hw hh p
  rw [fillL_const] at this
  rw [show ((w : Int) * (h : Int)).toNat = h * w by rw [← Int.natCast_mul, Int.toNat_natCast, Nat.mul_comm]]
  exact this.bind (.now _)
theorem new_eq' (W H : Int) (p : S26) : Ev (fun k => imageeditorref11_New.f k W H p.f0 p.f1 p.f2 p.f3) (newR W H p) := by
  have bad : Ev (fun k => imageeditorref11_New.j0 k W H true p.f0 p.f1 p.f2 p.f3) (0, 0, [], 15) := .step (f := fun _ => some (0, 0, [], 15)) (fun k => by rw [imageeditorref11_New.j0, if_pos rfl]) (.now _)
  unfold imageeditorref11_New.f newR
  by_cases hs : sidesOk W H = true
  case neg =>
    rw [if_neg hs]
    rw [sidesOk_iff] at hs
    by_cases h1 : W < 0
    · simp only [if_pos h1]; exact bad
    by_cases h2 : W > 256
    · simp only [if_neg h1, if_pos h2]; exact bad
    by_cases h3 : H < 0
    · simp only [if_neg h1, if_neg h2, if_pos h3]; exact bad
    by_cases h4 : H > 256
    · simp only [if_neg h1, if_neg h2, if_neg h3, if_pos h4]; exact bad
    simp only [if_neg h1, if_neg h2, if_neg h3, if_neg h4]
    have : ((W == 0) != (H == 0)) = true := by
      rw [show (W == 0) = decide (W = 0) from rfl, show (H == 0) = decide (H = 0) from rfl]
      by_cases a : W = 0 <;> by_cases b : H = 0
      · exact absurd ⟨by omega, by omega, by omega, by omega, by omega⟩ hs
      · simp [a, b]
      · simp [a, b]
      · exact absurd ⟨by omega, by omega, by omega, by omega, by omega⟩ hs
    rw [this]
    exact bad
  have hsd := (sidesOk_iff W H).1 hs
  have e : ((W == 0) != (H == 0)) = false := by
    rw [show (W == 0) = decide (W = 0) from rfl, show (H == 0) = decide (H = 0) from rfl]
    by_cases a : W = 0 <;> by_cases b : H = 0
    · simp [a, b]
    · exact absurd (hsd.2.2.2.2.1 a) b
    · exact absurd (hsd.2.2.2.2.2 b) a
    · simp [a, b]
  simp only [if_neg (show ¬ W < 0 by omega), if_neg (show ¬ W > 256 by omega), if_neg (show ¬ H < 0 by omega), if_neg (show ¬ H > 256 by omega), if_pos hs, e]
  refine .step (fun k => by rw [imageeditorref11_New.j0, if_neg (by simp), valid_eq', Option.bind_some]) ?_
  by_cases hp : pxOk p.f0 p.f1 p.f2 p.f3 = true
  case neg => simp only [if_neg hp]; exact .now _
  simp only [if_pos hp]
  obtain ⟨w, h, rfl, rfl, hw, hh, _⟩ := nats hs
  rw [show ((w : Int) * (h : Int)).toNat = w * h by rw [← Int.natCast_mul, Int.toNat_natCast]]
  exact newLoop w h hw hh p (w * h) 0 (by omega)
theorem newR_small (W H : Int) (p : S26) : ((newR W H p).2.2.1.length : Int) ≤ 65536 := by
  unfold newR
  split
  · rename_i hs
    have := area hs
    split
    · simp only [List.length_replicate]; omega
    · simp
  · simp
theorem RasterChecks : ∀ (a0_0 : Int) (a0_1 : Int) (a0_2 : List S26) (a1 : Int) (a2 : Int) (a3_0 : Int) (a3_1 : Int) (a3_2 : Int) (a3_3 : Int), ((Lit.int .i64 a0_0).wf = true ∧ (Lit.int .i64 a0_1).wf = true ∧ (a0_2.length ≤ maxLen ∧ ∀ x ∈ a0_2, (Lit.int .i64 x.f0).wf = true ∧ (Lit.int .i64 x.f1).wf = true ∧ (Lit.int .i64 x.f2).wf = true ∧ (Lit.int .i64 x.f3).wf = true)) → (Lit.int .i64 a1).wf = true → (Lit.int .i64 a2).wf = true → ((Lit.int .i64 a3_0).wf = true ∧ (Lit.int .i64 a3_1).wf = true ∧ (Lit.int .i64 a3_2).wf = true ∧ (Lit.int .i64 a3_3).wf = true) → ∃ k, imageeditorlaw11_RasterChecks.f k a0_0 a0_1 a0_2 a1 a2 a3_0 a3_1 a3_2 a3_3 = some true := by
  intro W H l w h p0 p1 p2 p3 _ _ _ _
  have n1 := new_eq w h ⟨p0, p1, p2, p3⟩
  have n2 := new_eq' w h ⟨p0, p1, p2, p3⟩
  refine Ev.rounds (n1.bind (n2.bind (awake_eq.bind ?_)))
  simp only [if_true]
  refine (check_eq W H l).bind ((check_eq' W H l).bind ?_)
  simp only [if_true]
  exact (same_eq _ (newR_small _ _ _) _ _).bind (.now _)
end Go.Proofs.Ytjepbimgddgijaa.Pure
