/- WarpNeeds in plain words: Needs computes what the specification computes. For every mesh, kernel and rectangles. -/
import Derived.Test.YtnfbabmceddciaaPMeshAtN
import Derived.Test.YtnfbabmceddciaaPRect
import Derived.Test.YtnfbabmceddciaaG1
import Derived.Test.YtnfbabmceddciaaG2
import Derived.Test.YtnfbabmceddciaaG4
import Derived.Test.YtnfbabmceddciaaG8
import Derived.Test.YtnfbabmceddciaaG13
import Derived.Test.YtnfbabmceddciaaG15
import Derived.Test.YtnfbabmceddciaaG16
import Derived.Test.YtnfbabmceddciaaG17
namespace Go.Proofs.Ytnfbabmceddciaa.Pure
open Go.RowKit Go.Proofs.YtnfbabmceddciaaW.PrintWords Go.Proofs.YtnfbabmceddciaaW.PrintLast Go.Proofs.YtnfbabmceddciaaW.PrintMore Go.Proofs.Ytnfbabmceddciaa.G
set_option linter.unusedVariables false
set_option linter.unusedSimpArgs false

theorem awake_eq : Ev (fun k => imageeditorlaw15_awake.f k) true := .of imageeditorlaw15_awake.mono imageeditorlaw15_awake.known
theorem kvalid_eq (a : Int) : kernel_Valid.f a = some (decide (0 ≤ a ∧ a ≤ 4)) := by
  unfold kernel_Valid.f
  by_cases h : a ≥ 0
  · rw [if_pos h]; congr 1; exact decide_eq_decide.2 (by omega)
  · rw [if_neg h, decide_eq_false (by omega)]
theorem kvalid_eq' (a : Int) : imageeditorref13_Valid.f a = some (decide (0 ≤ a ∧ a ≤ 4)) := kvalid_eq a
def supV (a : Int) : Int := if a = 2 ∨ a = 4 then 2 else 1
theorem supV_b (a : Int) : 1 ≤ supV a ∧ supV a ≤ 2 := by unfold supV; split <;> omega
theorem support_eq {a : Int} (h : 0 ≤ a ∧ a ≤ 4) : kernel_Support.f a = some (supV a) := by
  unfold kernel_Support.f supV
  rw [kvalid_eq, Option.bind_some, if_pos (by simpa using h)]
  by_cases c : a = 2
  · rw [if_pos c, if_pos (.inl c)]
  by_cases d : a = 4
  · rw [if_neg c, if_pos d, if_pos (.inr d)]
  · rw [if_neg c, if_neg d, if_neg (by omega)]
theorem support_eq' {a : Int} (h : 0 ≤ a ∧ a ≤ 4) : Ev (fun k => imageeditorref13_Support.f k a) (supV a) := by
  unfold imageeditorref13_Support.f
  by_cases c : a = 2
  · simp only [if_pos c]
    exact .step (f := fun _ => some (supV a)) (fun k => by rw [imageeditorref13_Support.j0, if_pos rfl, supV, if_pos (.inl c)]) (.now _)
  simp only [if_neg c]
  by_cases d : a = 4
  · exact .step (f := fun _ => some (supV a)) (fun k => by rw [imageeditorref13_Support.j0, if_pos (by simpa using d), supV, if_pos (.inr d)]) (.now _)
  · refine .step (f := fun _ => some (supV a)) (fun k => ?_) (.now _)
    rw [imageeditorref13_Support.j0, if_neg (by simpa using d), kvalid_eq', Option.bind_some, if_pos (by simpa using h), supV, if_neg (by omega)]
theorem needs_both (c r s : Int) (D : List S28) (kind x y w h X Y W H : Int) : ∃ R : Int × Int × Int × Int × Int, Ev (fun k => warp_Needs.f k c r s D kind x y w h X Y W H) R ∧ Ev (fun k => imageeditorref15_Needs.f k c r s D kind x y w h X Y W H) R := by
  have bad : Ev (fun k => warp_Needs.j0 k kind true c r s D x y w h X Y W H) (0, 0, 0, 0, 2) := .step (f := fun _ => some (0, 0, 0, 0, 2)) (fun k => by rw [warp_Needs.j0, if_pos rfl]) (.now _)
  have bad' : Ev (fun k => imageeditorref15_Needs.j0 k kind true c r s D x y w h X Y W H) (0, 0, 0, 0, 2) := .step (f := fun _ => some (0, 0, 0, 0, 2)) (fun k => by rw [imageeditorref15_Needs.j0, if_pos rfl]) (.now _)
  unfold warp_Needs.f imageeditorref15_Needs.f
  by_cases h0 : chkW c r s D = 0
  case neg =>
    refine ⟨(0, 0, 0, 0, chkW c r s D), (wcheck_eq c r s D).bind ?_, (wcheck_eq' c r s D).bind ?_⟩
    · simp only [if_neg h0]; exact .now _
    · simp only [if_neg h0]; exact .now _
  have go : ∀ {f g : Nat → Int → Option (Int × Int × Int × Int × Int)}, (∃ R, Ev (fun k => f k 0) R ∧ Ev (fun k => g k 0) R) → ∃ R, Ev (fun k => (warp_Check.f k c r s D).bind (f k)) R ∧ Ev (fun k => (imageeditorref15_Check.f k c r s D).bind (g k)) R := by
    intro f g ⟨R, e1, e2⟩
    have k1 := wcheck_eq c r s D
    have k2 := wcheck_eq' c r s D
    rw [h0] at k1 k2
    exact ⟨R, k1.bind e1, k2.bind e2⟩
  refine go ?_
  simp only [if_true, kvalid_eq, kvalid_eq', rvalid_eq, rvalid_eq', Option.bind_some]
  by_cases hk : 0 ≤ kind ∧ kind ≤ 4
  case neg => simp only [decide_eq_false hk, Bool.false_eq_true, if_false]; exact ⟨_, .now _, .now _⟩
  simp only [decide_eq_true hk, if_true]
  by_cases hv : validR x y w h = true
  case neg => simp only [if_neg hv]; exact ⟨_, bad, bad'⟩
  simp only [if_pos hv]
  by_cases hV : validR X Y W H = true
  case neg => simp only [if_neg hV]; exact ⟨_, bad, bad'⟩
  simp only [if_pos hV, rempty_eq _ _ _ _ hv, rempty_eq' _ _ _ _ hv, Option.bind_some]
  by_cases he : w = 0 ∨ h = 0
  · simp only [decide_eq_true he, if_true]; exact ⟨_, bad, bad'⟩
  simp only [decide_eq_false he, Bool.false_eq_true, if_false]
  have hw : w ≠ 0 := by omega
  have hh : h ≠ 0 := by omega
  simp only [within_eq hv hw hh hV, Option.bind_some]
  have hwin := within_eq' hv hw hh hV
  cases e : winR x y w h X Y W H with
  | false =>
    rw [e] at hwin
    refine ⟨_, bad, hwin.bind ?_⟩
    simp only [Bool.not_false]
    exact bad'
  | true =>
    rw [e] at hwin
    have f := valid_f hv
    have F := valid_f hV
    simp only [winR, decide_eq_true_eq] at e
    obtain ⟨⟨h1, h2, h3, h4, h5, h6, h7⟩, hD⟩ := chkW_ok h0
    have hM := mst_b D 0 hD (by omega) (by omega)
    have hr := reach_eq c r s D
    have hr' := reach_eq' c r s D
    unfold reachV at hr hr'
    rw [if_pos h0] at hr hr'
    have q1 : 0 ≤ (mst D 0 + 65535) / 65536 ∧ (mst D 0 + 65535) / 65536 ≤ 16 := by omega
    generalize (mst D 0 + 65535) / 65536 = n0 at *
    have sb := supV_b kind
    have hn : wrap64 ((wrap64 (n0 + supV kind)) + 1) = n0 + supV kind + 1 := by rw [w64 (x := n0 + supV kind) (by omega) (by omega), w64 (by omega) (by omega)]
    have gr := grow_eq hv hw hh (n := n0 + supV kind + 1) (by omega) (by omega)
    have gr' := grow_eq' hv hw hh (n := n0 + supV kind + 1) (by omega) (by omega)
    have su := support_eq hk
    have su' := support_eq' hk
    generalize supV kind = z at *
    have ax := g_b (x := x) (w := w) (n := n0 + z + 1) (by omega) (by omega) (by omega) (by omega)
    have ay := g_b (x := y) (w := h) (n := n0 + z + 1) (by omega) (by omega) (by omega) (by omega)
    unfold growR at gr gr'
    generalize g0 x (n0 + z + 1) = p0 at *
    generalize g1 x w (n0 + z + 1) = p1 at *
    generalize g0 y (n0 + z + 1) = q0 at *
    generalize g1 y h (n0 + z + 1) = r1 at *
    have vG : validR p0 q0 (p1 - p0) (r1 - q0) = true := valid_m (by omega)
    have d1 : mx p0 X < mn (p0 + (p1 - p0)) (X + W) := by unfold mx mn; split <;> split <;> omega
    have d2 : mx q0 Y < mn (q0 + (r1 - q0)) (Y + H) := by unfold mx mn; split <;> split <;> omega
    have me := meet_eq vG hV d1 d2
    have me' := meet_eq' vG hV d1 d2 (by omega) (by omega) (by omega) (by omega)
    simp only [Bool.not_true]
    refine ⟨(mx p0 X, mx q0 Y, mn (p0 + (p1 - p0)) (X + W) - mx p0 X, mn (q0 + (r1 - q0)) (Y + H) - mx q0 Y, 0), ?_, hwin.bind ?_⟩
    · refine .step (fun k => by rw [warp_Needs.j0, if_neg (by simp)]) ?_
      refine hr.bind ?_
      simp only [su, Option.bind_some, hn]
      refine gr.bind ?_
      simp only [me, Option.bind_some]
      exact .now _
    · simp only [Bool.not_true]
      refine .step (fun k => by rw [imageeditorref15_Needs.j0, if_neg (by simp)]) ?_
      refine hr'.bind (su'.bind ?_)
      simp only [hn]
      refine gr'.bind (me'.bind ?_)
      exact .now _
theorem WarpNeeds : ∀ (a0_0 : Int) (a0_1 : Int) (a0_2 : Int) (a0_3 : List S28) (a1 : Int) (a2_0 : Int) (a2_1 : Int) (a2_2 : Int) (a2_3 : Int) (a3_0 : Int) (a3_1 : Int) (a3_2 : Int) (a3_3 : Int), ((Lit.int .i64 a0_0).wf = true ∧ (Lit.int .i64 a0_1).wf = true ∧ (Lit.int .i64 a0_2).wf = true ∧ (a0_3.length ≤ maxLen ∧ ∀ x ∈ a0_3, (Lit.int .i64 x.f0).wf = true ∧ (Lit.int .i64 x.f1).wf = true)) → (Lit.int .i64 a1).wf = true → ((Lit.int .i64 a2_0).wf = true ∧ (Lit.int .i64 a2_1).wf = true ∧ (Lit.int .i64 a2_2).wf = true ∧ (Lit.int .i64 a2_3).wf = true) → ((Lit.int .i64 a3_0).wf = true ∧ (Lit.int .i64 a3_1).wf = true ∧ (Lit.int .i64 a3_2).wf = true ∧ (Lit.int .i64 a3_3).wf = true) → ∃ k, imageeditorlaw15_WarpNeeds.f k a0_0 a0_1 a0_2 a0_3 a1 a2_0 a2_1 a2_2 a2_3 a3_0 a3_1 a3_2 a3_3 = some true := by
  intro c r s D kind x y w h X Y W H _ _ _ _
  obtain ⟨R, e1, e2⟩ := needs_both c r s D kind x y w h X Y W H
  unfold imageeditorlaw15_WarpNeeds.f
  refine Ev.rounds (e1.bind (e2.bind ?_))
  simp only [beq_self_eq_true, Bool.and_self, if_true]
  exact awake_eq.bind (.now _)
end Go.Proofs.Ytnfbabmceddciaa.Pure
