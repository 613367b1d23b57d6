/- WandSoftens in plain words: Soft is the unit just where Similar with the tolerance near is, and greater than 0 just where the distance is less than far. For every image, color and tolerances. -/
import Derived.Test.YtmmncannibnklaaPSoft
import Derived.Test.YtmmncannibnklaaG17
namespace Go.Proofs.Ytmmncannibnklaa.Pure
open Go.RowKit Go.Proofs.YtmmncannibnklaaW.PrintWords Go.Proofs.YtmmncannibnklaaW.PrintLast Go.Proofs.YtmmncannibnklaaW.PrintMore Go.Proofs.Ytmmncannibnklaa.G
set_option linter.unusedVariables false
set_option linter.unusedSimpArgs false

theorem soft_mid {near far : Int} {c p : S37} (h1 : 0 ≤ near) (h3 : far ≤ 65535) (a : ¬ distS p c ≤ near) (b : ¬ distS p c ≥ far) : 1 ≤ softV c near far p ∧ softV c near far p ≤ 65535 := by
  rw [softV, if_neg a, if_neg b, divR]
  generalize distS p c = d at *
  have q1 : 1 ≤ 65535 * (far - d) / (far - near) := Int.le_ediv_of_mul_le (by omega) (by omega)
  have q2 : 65535 * (far - d) / (far - near) < 65535 := Int.ediv_lt_of_lt_mul (by omega) (by omega)
  generalize 65535 * (far - d) / (far - near) = q at *
  split <;> omega
theorem rd_mapG (g : S37 → Int) (l : List S37) (i : Nat) (h : i < l.length) : rd (l.map g) (i : Int) = g (rd_T37 l (i : Int)) := by
  simp [rd, rd_T37, List.getD_eq_getElem?_getD, List.getElem?_eq_getElem h]
section
variable {W H : Int} {l : List S37} (hl : (l.length : Int) ≤ 65536) (c : S37) {near far : Int} (h1 : 0 ≤ near) (h2 : near < far) (h3 : far ≤ 65535)
include hl h1 h2 h3
theorem softensLoop : ∀ (m i : Nat), i + m = l.length → Ev (fun k => imageeditorlaw24_WandSoftens.l0 k near far (l.length : Int) (i : Int) W H l c.f0 c.f1 c.f2 c.f3 W H (l.map (softV c near far)) W H (l.map (simV c near))) true := by
  intro m
  induction m with
  | zero =>
    intro i hi
    refine .step (fun k => by rw [imageeditorlaw24_WandSoftens.l0, if_neg (by omega)]) ?_
    exact awake_eq.bind (.now _)
  | succ m ih =>
    intro i hi
    have hn := ih (i + 1) (by omega)
    have g1 : (i : Int) < (l.length : Int) := by omega
    have g0 : (0 : Int) ≤ (i : Int) := by omega
    have gs : (i : Int) < ((l.map (softV c near far)).length : Int) := by rw [List.length_map]; exact g1
    have gm : (i : Int) < ((l.map (simV c near)).length : Int) := by rw [List.length_map]; exact g1
    have e3 : wrap64 ((i : Int) + 1) = ((i + 1 : Nat) : Int) := by rw [w64 (by omega) (by omega)]; rfl
    have es := rd_mapG (softV c near far) l i (by omega)
    have em := rd_mapG (simV c near) l i (by omega)
    have next : Ev (fun k => imageeditorlaw24_WandSoftens.j2 k near far (l.length : Int) (i : Int) false W H l c.f0 c.f1 c.f2 c.f3 W H (l.map (softV c near far)) W H (l.map (simV c near))) true := by
      refine .step (fun k => by rw [imageeditorlaw24_WandSoftens.j2, if_neg (by simp), e3]) ?_
      exact hn
    clear hn ih hi e3
    by_cases a : distS (rd_T37 l (i : Int)) c ≤ near
    · have v : softV c near far (rd_T37 l (i : Int)) = 65535 := by rw [softV, if_pos a]
      have u : simV c near (rd_T37 l (i : Int)) = 65535 := by rw [simV, if_pos a]
      rw [v] at es
      rw [u] at em
      refine .step (fun k => by rw [imageeditorlaw24_WandSoftens.l0, if_pos g1, if_pos g0, if_pos g1, distS_eq, Option.bind_some, if_pos gs, es, if_neg (by omega), if_neg (by omega), if_pos (by omega), if_neg (by omega), if_neg (by omega), if_pos a, if_pos rfl, if_pos gm, em, if_pos rfl, if_neg (by omega)]) ?_
      exact next
    · have u : simV c near (rd_T37 l (i : Int)) = 0 := by rw [simV, if_neg a]
      rw [u] at em
      by_cases b : distS (rd_T37 l (i : Int)) c ≥ far
      · have v : softV c near far (rd_T37 l (i : Int)) = 0 := by rw [softV, if_neg a, if_pos b]
        rw [v] at es
        refine .step (fun k => by rw [imageeditorlaw24_WandSoftens.l0, if_pos g1, if_pos g0, if_pos g1, distS_eq, Option.bind_some, if_pos gs, es, if_neg (by omega), if_neg (by omega), if_neg (show ¬ distS (rd_T37 l (i : Int)) c < far by omega), if_pos b, if_pos rfl, if_neg a, if_pos (show distS (rd_T37 l (i : Int)) c > near by omega), if_pos gm, em]) ?_
        exact next
      · obtain ⟨v1, v2⟩ := soft_mid (c := c) (p := rd_T37 l (i : Int)) h1 h3 a b
        rw [← es] at v1 v2
        refine .step (fun k => by rw [imageeditorlaw24_WandSoftens.l0, if_pos g1, if_pos g0, if_pos g1, distS_eq, Option.bind_some, if_pos gs, if_neg (by omega), if_neg (by omega), if_pos (show distS (rd_T37 l (i : Int)) c < far by omega), if_neg (by omega), if_neg b, if_neg a, if_pos (show distS (rd_T37 l (i : Int)) c > near by omega), if_pos gm, em]) ?_
        exact next
end
theorem WandSoftens : ∀ (a0_0 : Int) (a0_1 : Int) (a0_2 : List S37) (a1_0 : Int) (a1_1 : Int) (a1_2 : Int) (a1_3 : Int) (a2 : Int) (a3 : Int), ((Lit.int .i64 a0_0).wf = true ∧ (Lit.int .i64 a0_1).wf = true ∧ (a0_2.length ≤ maxLen ∧ ∀ x ∈ a0_2, (Lit.int .i64 x.f0).wf = true ∧ (Lit.int .i64 x.f1).wf = true ∧ (Lit.int .i64 x.f2).wf = true ∧ (Lit.int .i64 x.f3).wf = true)) → ((Lit.int .i64 a1_0).wf = true ∧ (Lit.int .i64 a1_1).wf = true ∧ (Lit.int .i64 a1_2).wf = true ∧ (Lit.int .i64 a1_3).wf = true) → (Lit.int .i64 a2).wf = true → (Lit.int .i64 a3).wf = true → ∃ k, imageeditorlaw24_WandSoftens.f k a0_0 a0_1 a0_2 a1_0 a1_1 a1_2 a1_3 a2 a3 = some true := by
  intro W H l c0 c1 c2 c3 near far _ _ _ _
  unfold imageeditorlaw24_WandSoftens.f
  refine Ev.rounds ((soft_eq W H l ⟨c0, c1, c2, c3⟩ near far).bind ?_)
  have hm := similar_eq W H l ⟨c0, c1, c2, c3⟩ near
  have bad : ∀ e : Int, e ≠ 0 → softR W H l ⟨c0, c1, c2, c3⟩ near far = (0, 0, [], e) → (softR W H l ⟨c0, c1, c2, c3⟩ near far).2.2.2 ≠ 0 ∧ (((softR W H l ⟨c0, c1, c2, c3⟩ near far).2.2.1.length : Int) = 0) := fun e he h => by rw [h]; exact ⟨he, rfl⟩
  have bad' : ((softR W H l ⟨c0, c1, c2, c3⟩ near far).2.2.2 ≠ 0 ∧ (((softR W H l ⟨c0, c1, c2, c3⟩ near far).2.2.1.length : Int) = 0)) ∨ (chk W H l = 0 ∧ pxOk c0 c1 c2 c3 = true ∧ (0 ≤ near ∧ near ≤ 65535) ∧ (0 ≤ far ∧ far ≤ 65535) ∧ near < far) := by
    by_cases h : chk W H l = 0
    case neg => exact .inl (bad _ h (by rw [softR, if_neg h]))
    by_cases hp : pxOk c0 c1 c2 c3 = true ∧ (0 ≤ near ∧ near ≤ 65535) ∧ (0 ≤ far ∧ far ≤ 65535)
    case neg => exact .inl (bad 2 (by omega) (by rw [softR, if_pos h, if_neg hp]))
    by_cases hn : near ≥ far
    · exact .inl (bad 24 (by omega) (by rw [softR, if_pos h, if_pos hp, if_pos hn]))
    · exact .inr ⟨h, hp.1, hp.2.1, hp.2.2, by omega⟩
  rcases bad' with ⟨e1, e2⟩ | ⟨hc, hp, hn, hf, hnf⟩
  · simp only [if_neg e1, if_pos e2]
    exact awake_eq.bind (.now _)
  · have er : softR W H l ⟨c0, c1, c2, c3⟩ near far = (W, H, l.map (softV ⟨c0, c1, c2, c3⟩ near far), 0) := by
      rw [softR, if_pos hc, if_pos ⟨hp, hn, hf⟩, if_neg (by omega)]
    have em : simR W H l ⟨c0, c1, c2, c3⟩ near = (W, H, l.map (simV ⟨c0, c1, c2, c3⟩ near), 0) := by
      rw [simR, if_pos hc, if_pos ⟨hp, hn⟩]
    rw [em] at hm
    rw [er]
    simp only [if_true]
    refine hm.bind ?_
    simp only [if_true, List.length_map, bne_self_eq_false]
    refine .step (fun k => by rw [imageeditorlaw24_WandSoftens.j0, if_neg (by simp)]) ?_
    exact softensLoop (chk_small hc) ⟨c0, c1, c2, c3⟩ hn.1 hnf hf.2 l.length 0 (by omega)
end Go.Proofs.Ytmmncannibnklaa.Pure
