/- WandCloses in plain words: the mask holds its first pixel and similar pixels alone, and each similar neighbor of a selected pixel. For every image, point and tolerance. -/
import Derived.Test.YtmmncannibnklaaPAll
import Derived.Test.YtmmncannibnklaaG19
namespace Go.Proofs.Ytmmncannibnklaa.Pure
open Go.RowKit Go.Proofs.YtmmncannibnklaaW.PrintWords Go.Proofs.YtmmncannibnklaaW.PrintLast Go.Proofs.YtmmncannibnklaaW.PrintMore Go.Proofs.Ytmmncannibnklaa.G
set_option linter.unusedVariables false
set_option linter.unusedSimpArgs false
section
variable {W H : Int} {l : List S37} {tol place : Int} {diag : Bool} {V : List Int}
theorem near1 {q : Int} (h : 0 ≤ q) (h' : q ≤ 2) : wrap64 q = q := w64 (by omega) (by omega)
theorem near2 {x q : Int} (x1 : 0 ≤ x) (x2 : x ≤ 256) (h : 0 ≤ q) (h' : q ≤ 2) : wrap64 (x + q) = x + q ∧ wrap64 (x + q - 1) = x + q - 1 ∧ -1 ≤ x - (x + q - 1) ∧ x - (x + q - 1) ≤ 1 := ⟨w64 (by omega) (by omega), w64 (by omega) (by omega), by omega, by omega⟩
theorem closeInner (hs : sidesOk W H = true) (hV : (V.length : Int) = W * H) {x y : Int} (hxy : Ins W H x y) (hz : ∀ u v, Off diag (x - u) (y - v) → Ins W H u v → rd V (v * W + u) = 0) {i : Int} (hi : 0 ≤ i) (hi' : i ≤ 65536) {n : Int} {r : Bool}
    (h : Ev (fun k => imageeditorlaw24_WandCloses.l0 k tol diag place n (i + 1) W H l W H V) r) :
    ∀ (m j : Nat), j + m = 9 → Ev (fun k => imageeditorlaw24_WandCloses.l1 k tol diag place x y n i (j : Int) W H l W H V) r := by
  have ha := area hs
  have hsd : 0 ≤ W ∧ W ≤ 256 ∧ 0 ≤ H ∧ H ≤ 256 := by have := (sidesOk_iff W H).1 hs; exact ⟨this.1, this.2.1, this.2.2.1, this.2.2.2.1⟩
  obtain ⟨x1, x2, x3, x4⟩ := hxy
  intro m
  induction m with
  | zero =>
    intro j hj
    refine .step (fun k => by rw [imageeditorlaw24_WandCloses.l1, if_neg (by omega), w64 (by omega) (by omega)]) ?_
    exact h
  | succ m ih =>
    intro j hj
    have m1 : 0 ≤ (j : Int) % 3 ∧ (j : Int) % 3 ≤ 2 := by clear h hz ha hsd x1 x2 x3 x4 hV; omega
    have m2 : 0 ≤ (j : Int) / 3 ∧ (j : Int) / 3 ≤ 2 := by clear h hz ha hsd x1 x2 x3 x4 hV; omega
    have e1 : wrap64 ((j : Int) / 3) = (j : Int) / 3 := near1 m2.1 m2.2
    obtain ⟨e2, e3, ou⟩ := near2 x1 (show x ≤ 256 by clear m1 m2; omega) m1.1 m1.2
    obtain ⟨e4, e5, ov⟩ := near2 x3 (show y ≤ 256 by clear m1 m2; omega) m2.1 m2.2
    have e6 : wrap64 ((j : Int) + 1) = (j : Int) + 1 := w64 (by clear m1 m2 e1 e2 e3 e4 e5 ou ov; omega) (by clear m1 m2 e1 e2 e3 e4 e5 ou ov; omega)
    have hn := ih (j + 1) (by omega)
    have j9 : (j : Int) < 9 := by clear m1 m2 e1 e2 e3 e4 e5 ou ov; omega
    have t1 : Int.tmod (j : Int) 3 = (j : Int) % 3 := Int.tmod_eq_emod_of_nonneg (Int.natCast_nonneg j)
    have t2 : Int.tdiv (j : Int) 3 = (j : Int) / 3 := Int.tdiv_eq_ediv_of_nonneg (Int.natCast_nonneg j)
    refine .step (fun k => by rw [imageeditorlaw24_WandCloses.l1, if_pos j9, t1, t2, e1, e2, e3, e4, e5, e6]) ?_
    clear t1 t2 e1 e2 e3 e4 e5 e6 m1 m2
    generalize x + (j : Int) % 3 - 1 = u at ou ⊢
    generalize y + (j : Int) / 3 - 1 = v at ov ⊢
    by_cases c1 : u ≥ 0
    case neg => simp only [if_neg c1]; exact hn
    by_cases c2 : v ≥ 0
    case neg => simp only [if_pos c1, if_neg c2]; exact hn
    by_cases c3 : u < W
    case neg => simp only [if_pos c1, if_pos c2, if_neg c3]; exact hn
    by_cases c4 : v < H
    case neg => simp only [if_pos c1, if_pos c2, if_pos c3, if_neg c4]; exact hn
    have hi2 : Ins W H u v := ⟨c1, c3, c2, c4⟩
    have hq := place_in hi2
    have hm := Int.mul_nonneg c2 (show 0 ≤ W by omega)
    have f1 : wrap64 (v * W) = v * W := w64 (by omega) (by omega)
    have f2 : wrap64 (v * W + u) = v * W + u := w64 (by omega) (by omega)
    simp only [if_pos c1, if_pos c2, if_pos c3, if_pos c4, f1, f2, if_pos hq.1, if_pos (show v * W + u < (V.length : Int) by omega)]
    by_cases c5 : diag = true
    · simp only [if_pos c5, if_pos (hz u v ⟨ou.1, ou.2, ov.1, ov.2, .inl c5⟩ hi2)]; exact hn
    simp only [if_neg c5]
    by_cases c6 : u = x
    · simp only [if_pos c6, if_pos (hz u v ⟨ou.1, ou.2, ov.1, ov.2, .inr (.inl (by omega))⟩ hi2)]; exact hn
    simp only [if_neg c6]
    by_cases c7 : v = y
    · simp only [if_pos c7, if_pos (hz u v ⟨ou.1, ou.2, ov.1, ov.2, .inr (.inr (by omega))⟩ hi2)]; exact hn
    simp only [if_neg c7]
    exact hn
theorem closeLoop (hs : sidesOk W H = true) (hl : (l.length : Int) = W * H) {x0 y0 : Int} (h0 : Ins W H x0 y0) (hp : place = y0 * W + x0) (ht : 0 ≤ tol) (hF : IsFlood W H l (rd_T37 l place) tol diag x0 y0 V) :
    ∀ (m j : Nat), j + m = V.length → Ev (fun k => imageeditorlaw24_WandCloses.l0 k tol diag place (V.length : Int) (j : Int) W H l W H V) true := by
  have ha := area hs
  have hsd := (sidesOk_iff W H).1 hs
  have hV := hF.len
  have hW : 0 < W := by have := h0.1; have := h0.2.1; omega
  have hq := place_in h0
  intro m
  induction m with
  | zero =>
    intro j hj
    refine .step (fun k => by rw [imageeditorlaw24_WandCloses.l0, if_neg (by omega)]) ?_
    exact awake_eq.bind (.now _)
  | succ m ih =>
    intro j hj
    have hn := ih (j + 1) (by omega)
    refine .step (fun k => by rw [imageeditorlaw24_WandCloses.l0, if_pos (by omega), if_pos (by omega), if_pos (by omega), if_pos (by omega), if_pos (by omega), dist_eq, Option.bind_some, if_pos (by omega)]) ?_
    obtain ⟨hi, he⟩ := place_of hW (show (0 : Int) ≤ (j : Int) by omega) (show (j : Int) < W * H by omega)
    have hd : simS W l (rd_T37 l place) tol ((j : Int) % W) ((j : Int) / W) ↔ dist (rd_T37 l (j : Int)).f0 (rd_T37 l (j : Int)).f1 (rd_T37 l (j : Int)).f2 (rd_T37 l (j : Int)).f3 (rd_T37 l place).f0 (rd_T37 l place).f1 (rd_T37 l place).f2 (rd_T37 l place).f3 ≤ tol := by
      rw [simS, he, distS]
    generalize dist (rd_T37 l (j : Int)).f0 (rd_T37 l (j : Int)).f1 (rd_T37 l (j : Int)).f2 (rd_T37 l (j : Int)).f3 (rd_T37 l place).f0 (rd_T37 l place).f1 (rd_T37 l place).f2 (rd_T37 l place).f3 = d at hd ⊢
    have h00 : simS W l (rd_T37 l place) tol x0 y0 := by
      rw [simS, ← hp, distS, dist_self]; exact ht
    have go3 : Ev (fun k => imageeditorlaw24_WandCloses.j3 k tol diag place (j : Int) (V.length : Int) (j : Int) true W H l W H V) true := by
      refine .step (fun k => by rw [imageeditorlaw24_WandCloses.j3, if_pos rfl, w64 (by omega) (by omega)]) ?_
      exact hn
    by_cases hr : Reach W H (simS W l (rd_T37 l place) tol) diag x0 y0 ((j : Int) % W) ((j : Int) / W)
    · have hv := hF.on _ _ hi hr
      rw [he] at hv
      simp only [hv, if_neg (show ¬ (65535 : Int) = 0 by omega), if_true]
      have hd' := hd.1 (hr.sim_ h00)
      rw [decide_eq_false (show ¬ d > tol by omega)]
      refine .step (fun k => by rw [imageeditorlaw24_WandCloses.j2, if_neg (by simp), if_pos (by omega), if_pos (by omega), hv, if_neg (by omega)]) ?_
      exact go3
    · have hv := hF.off _ _ hi hr
      rw [he] at hv
      simp only [hv, if_true]
      refine .step (fun k => by rw [imageeditorlaw24_WandCloses.j2, if_neg (by simp), if_pos (by omega), if_pos (by omega), hv, if_pos rfl]) ?_
      by_cases hd' : d > tol
      · rw [decide_eq_true hd']; exact go3
      rw [decide_eq_false hd']
      have t1 : Int.tmod (j : Int) W = (j : Int) % W := Int.tmod_eq_emod_of_nonneg (by omega)
      have t2 : Int.tdiv (j : Int) W = (j : Int) / W := Int.tdiv_eq_ediv_of_nonneg (by omega)
      have hi3 := hi.2.2.1
      have hi4 := hi.2.2.2
      refine .step (fun k => by rw [imageeditorlaw24_WandCloses.j3, if_neg (by simp), if_neg (by omega), t1, t2, w64 (by omega) (by omega)]) ?_
      refine closeInner hs hV hi (fun u v ho hin => ?_) (by omega) (by omega) hn 9 0 (by omega)
      refine hF.off u v hin fun hr' => hr (.step hr' ho hi (hd.2 (by omega)))
end
theorem WandCloses : ∀ (a0_0 : Int) (a0_1 : Int) (a0_2 : List S37) (a1_0 : Int) (a1_1 : Int) (a2 : Int) (a3 : Bool), ((Lit.int .i64 a0_0).wf = true ∧ (Lit.int .i64 a0_1).wf = true ∧ (a0_2.length ≤ maxLen ∧ ∀ x ∈ a0_2, (Lit.int .i64 x.f0).wf = true ∧ (Lit.int .i64 x.f1).wf = true ∧ (Lit.int .i64 x.f2).wf = true ∧ (Lit.int .i64 x.f3).wf = true)) → ((Lit.int .i64 a1_0).wf = true ∧ (Lit.int .i64 a1_1).wf = true) → (Lit.int .i64 a2).wf = true → ∃ k, imageeditorlaw24_WandCloses.f k a0_0 a0_1 a0_2 a1_0 a1_1 a2 a3 = some true := by
  intro W H l ax ay tol diag _ _ _
  obtain ⟨r, hr, e⟩ := floods W H l ax ay tol diag
  refine Ev.rounds (e.bind ?_)
  have nothing : ∀ c : Int, c ≠ 0 → r = (0, 0, [], c) → Ev (fun k => if r.2.2.2 = 0 then ((imageeditorref11_Check.f k W H l).bind fun t612 => (if t612 = 0 then (if ax < 0 then (imageeditorlaw24_WandCloses.j0 k tol diag true W H l ax ay r.1 r.2.1 r.2.2.1) else (if ax ≥ W then (imageeditorlaw24_WandCloses.j0 k tol diag true W H l ax ay r.1 r.2.1 r.2.2.1) else (if ay < 0 then (imageeditorlaw24_WandCloses.j0 k tol diag true W H l ax ay r.1 r.2.1 r.2.2.1) else (if ay ≥ H then (imageeditorlaw24_WandCloses.j0 k tol diag true W H l ax ay r.1 r.2.1 r.2.2.1) else (if r.1 = W then (if r.2.1 = H then (imageeditorlaw24_WandCloses.j0 k tol diag ((r.2.2.1.length : Int) != (l.length : Int)) W H l ax ay r.1 r.2.1 r.2.2.1) else (imageeditorlaw24_WandCloses.j0 k tol diag true W H l ax ay r.1 r.2.1 r.2.2.1)) else (imageeditorlaw24_WandCloses.j0 k tol diag true W H l ax ay r.1 r.2.1 r.2.2.1)))))) else (imageeditorlaw24_WandCloses.j0 k tol diag true W H l ax ay r.1 r.2.1 r.2.2.1))) else (if (r.2.2.1.length : Int) = 0 then ((imageeditorlaw24_awake.f k).bind fun t611 => (some t611)) else (some false))) true := by
    rintro c hc rfl
    simp only [if_neg hc, List.length_nil, Int.ofNat_zero, if_true, show ((0 : Nat) : Int) = 0 from rfl]
    exact awake_eq.bind (.now _)
  by_cases h1 : chk W H l = 0
  case neg => exact nothing _ h1 (hr.bad h1)
  by_cases h2 : Ins W H ax ay ∧ 0 ≤ tol ∧ tol ≤ 65535
  case neg => exact nothing 2 (by omega) (hr.out h1 h2)
  obtain ⟨V, rfl, hF⟩ := hr.good h1 h2
  obtain ⟨hs, hl, _⟩ := chk_ok h1
  have ha := area hs
  have hsd := (sidesOk_iff W H).1 hs
  have hV := hF.len
  obtain ⟨⟨i1, i2, i3, i4⟩, ht, ht'⟩ := h2
  have hi : Ins W H ax ay := ⟨i1, i2, i3, i4⟩
  have hp := place_in hi
  have hm := Int.mul_nonneg i3 (show 0 ≤ W by omega)
  have e1 : wrap64 (ay * W) = ay * W := w64 (by omega) (by omega)
  have e2 : wrap64 (ay * W + ax) = ay * W + ax := w64 (by omega) (by omega)
  simp only [if_true]
  refine (check_eq' W H l).bind ?_
  simp only [h1, if_true, if_neg (show ¬ ax < 0 by omega), if_neg (show ¬ ax ≥ W by omega), if_neg (show ¬ ay < 0 by omega), if_neg (show ¬ ay ≥ H by omega)]
  refine .step (fun k => by rw [imageeditorlaw24_WandCloses.j0, if_neg (by simp [hV, hl]), e1, e2, if_pos hp.1, if_pos (by omega), if_pos (hF.on _ _ hi .base)]) ?_
  exact closeLoop hs hl hi rfl ht hF V.length 0 (by omega)
end Go.Proofs.Ytmmncannibnklaa.Pure
