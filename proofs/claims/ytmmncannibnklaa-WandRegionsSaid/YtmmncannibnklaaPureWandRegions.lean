/- WandRegions in plain words: with the tolerance 0 a mask is that of each of its places, and a greater tolerance or diagonal steps select no less. For every image, points, tolerance and surplus. -/
import Derived.Test.YtmmncannibnklaaPAll
import Derived.Test.YtmmncannibnklaaG20
namespace Go.Proofs.Ytmmncannibnklaa.Pure
open Go.RowKit Go.Proofs.YtmmncannibnklaaW.PrintWords Go.Proofs.YtmmncannibnklaaW.PrintLast Go.Proofs.YtmmncannibnklaaW.PrintMore Go.Proofs.Ytmmncannibnklaa.G
set_option linter.unusedVariables false
set_option linter.unusedSimpArgs false
/-- The error of Flood. -/
def floodErr (W H : Int) (l : List S37) (ax ay tol : Int) : Int := if chk W H l = 0 then (if 0 ≤ ax ∧ ax < W ∧ 0 ≤ ay ∧ ay < H ∧ 0 ≤ tol ∧ tol ≤ 65535 then 0 else 2) else chk W H l
theorem Floods.err {W H : Int} {l : List S37} {ax ay tol : Int} {diag : Bool} {r : Int × Int × List Int × Int} (h : Floods W H l ax ay tol diag r) : r.2.2.2 = floodErr W H l ax ay tol := by
  unfold floodErr
  by_cases h1 : chk W H l = 0
  case neg => rw [if_neg h1, h.bad h1]
  rw [if_pos h1]
  by_cases h2 : 0 ≤ ax ∧ ax < W ∧ 0 ≤ ay ∧ ay < H ∧ 0 ≤ tol ∧ tol ≤ 65535
  case neg => rw [if_neg h2, h.out h1 fun h => h2 ⟨h.1.1, h.1.2.1, h.1.2.2.1, h.1.2.2.2, h.2⟩]
  rw [if_pos h2]
  obtain ⟨V, rfl, _⟩ := h.good h1 ⟨⟨h2.1, h2.2.1, h2.2.2.1, h2.2.2.2.1⟩, h2.2.2.2.2⟩
  rfl
theorem Floods.ok {W H : Int} {l : List S37} {ax ay tol : Int} {diag : Bool} {r : Int × Int × List Int × Int} (h : Floods W H l ax ay tol diag r) (h0 : r.2.2.2 = 0) : chk W H l = 0 ∧ Ins W H ax ay ∧ (0 ≤ tol ∧ tol ≤ 65535) ∧ ∃ V, r = (W, H, V, 0) ∧ IsFlood W H l (rd_T37 l (ay * W + ax)) tol diag ax ay V := by
  by_cases h1 : chk W H l = 0
  case neg => rw [h.bad h1] at h0; exact absurd h0 h1
  by_cases h2 : Ins W H ax ay ∧ 0 ≤ tol ∧ tol ≤ 65535
  case neg => rw [h.out h1 h2] at h0; exact absurd h0 (by decide)
  exact ⟨h1, h2.1, h2.2, h.good h1 h2⟩
theorem Floods.none {W H : Int} {l : List S37} {ax ay tol : Int} {diag : Bool} {r : Int × Int × List Int × Int} (h : Floods W H l ax ay tol diag r) (h0 : ¬ r.2.2.2 = 0) : r.2.2.1 = [] := by
  by_cases h1 : chk W H l = 0
  case neg => rw [h.bad h1]
  by_cases h2 : Ins W H ax ay ∧ 0 ≤ tol ∧ tol ≤ 65535
  case neg => rw [h.out h1 h2]
  obtain ⟨V, rfl, _⟩ := h.good h1 h2
  exact absurd rfl h0
theorem regionLoop {C D X : List Int} (hC : (C.length : Int) ≤ 65536) (hD : C.length = D.length) (hX : C.length = X.length) (h : ∀ i : Int, 0 ≤ i → i < C.length → rd C i ≠ 0 → rd D i ≠ 0 ∧ rd X i ≠ 0) (a b a' b' a'' b'' : Int) :
    ∀ (m j : Nat), j + m = C.length → Ev (fun k => imageeditorlaw24_WandRegions.l0 k (C.length : Int) (j : Int) a b C a' b' D a'' b'' X) true := by
  intro m
  induction m with
  | zero =>
    intro j hj
    refine .step (fun k => by rw [imageeditorlaw24_WandRegions.l0, if_neg (by omega)]) ?_
    exact awake_eq.bind (.now _)
  | succ m ih =>
    intro j hj
    have hn := ih (j + 1) (by omega)
    refine .step (fun k => by rw [imageeditorlaw24_WandRegions.l0, if_pos (by omega), if_pos (by omega), if_pos (by omega), w64 (by omega) (by omega)]) ?_
    by_cases hc : rd C (j : Int) = 0
    · simp only [if_pos hc]; exact hn
    · have := h (j : Int) (by omega) (by omega) hc
      simp only [if_neg hc, if_neg this.1, if_neg this.2, if_pos (show (j : Int) < (D.length : Int) by omega), if_pos (show (j : Int) < (X.length : Int) by omega)]
      exact hn
theorem chk_pixel {W H : Int} {l : List S37} (h : chk W H l = 0) {i : Int} (hi : 0 ≤ i) (hi' : i < l.length) : pxOkS (rd_T37 l i) = true := by
  obtain ⟨a, rfl⟩ := Int.eq_ofNat_of_zero_le hi
  have ha : a < l.length := by omega
  rw [rd_get l a ha]
  exact List.all_eq_true.1 (chk_ok h).2.2 _ (List.getElem_mem ha)
/-- With the tolerance 0 the mask is that of each of its places. -/
theorem zero_same {W H : Int} {l : List S37} {ax ay bx byy : Int} {A B : List Int} (ha : Ins W H ax ay) (hb : Ins W H bx byy) (hA : IsFlood W H l (rd_T37 l (ay * W + ax)) 0 false ax ay A) (hB : IsFlood W H l (rd_T37 l (byy * W + bx)) 0 false bx byy B) (h : rd A (byy * W + bx) ≠ 0) : A = B := by
  have hr : Reach W H (simS W l (rd_T37 l (ay * W + ax)) 0) false ax ay bx byy := Classical.byContradiction fun hr => h (hA.off _ _ hb hr)
  have h00 : simS W l (rd_T37 l (ay * W + ax)) 0 ax ay := by rw [simS, distS, dist_self]; omega
  have hs := hr.sim_ h00
  have hsim : ∀ x y, simS W l (rd_T37 l (ay * W + ax)) 0 x y ↔ simS W l (rd_T37 l (byy * W + bx)) 0 x y := by
    intro x y
    simp only [simS, distS, dist_zero] at hs ⊢
    rw [hs.1, hs.2.1, hs.2.2.1, hs.2.2.2]
  have hback := hr.back ha h00
  have e1 := hA.len
  have e2 := hB.len
  have hW : 0 < W := by have := ha.1; have := ha.2.1; omega
  refine ext_rd (by omega) fun i hi hi' => ?_
  obtain ⟨hp, he⟩ := place_of hW hi (by rw [← hA.len]; exact hi')
  rw [← he]
  by_cases hq : Reach W H (simS W l (rd_T37 l (ay * W + ax)) 0) false ax ay (i % W) (i / W)
  · rw [hA.on _ _ hp hq, hB.on _ _ hp ((hback.trans hq).mono (fun u v _ => (hsim u v).1) id)]
  · rw [hA.off _ _ hp hq, hB.off _ _ hp fun hq' => hq (hr.trans (hq'.mono (fun u v _ => (hsim u v).2) id))]
theorem WandRegions : ∀ (a0_0 : Int) (a0_1 : Int) (a0_2 : List S37) (a1_0 : Int) (a1_1 : Int) (a2_0 : Int) (a2_1 : Int) (a3 : Int) (a4 : Int), ((Lit.int .i64 a0_0).wf = true ∧ (Lit.int .i64 a0_1).wf = true ∧ (a0_2.length ≤ maxLen ∧ ∀ x ∈ a0_2, (Lit.int .i64 x.f0).wf = true ∧ (Lit.int .i64 x.f1).wf = true ∧ (Lit.int .i64 x.f2).wf = true ∧ (Lit.int .i64 x.f3).wf = true)) → ((Lit.int .i64 a1_0).wf = true ∧ (Lit.int .i64 a1_1).wf = true) → ((Lit.int .i64 a2_0).wf = true ∧ (Lit.int .i64 a2_1).wf = true) → (Lit.int .i64 a3).wf = true → (Lit.int .i64 a4).wf = true → ∃ k, imageeditorlaw24_WandRegions.f k a0_0 a0_1 a0_2 a1_0 a1_1 a2_0 a2_1 a3 a4 = some true := by
  intro W H l ax ay bx byy tol more _ _ _ _ _
  refine Ev.rounds ?_
  unfold imageeditorlaw24_WandRegions.f
  have none_ : Ev (fun k => imageeditorlaw24_WandRegions.j0 k tol more true W H l ax ay bx byy) true := by
    refine .step (fun k => by rw [imageeditorlaw24_WandRegions.j0, if_pos rfl]) ?_
    exact awake_eq.bind (.now _)
  by_cases m1 : more < 0
  · simp only [if_pos m1]; exact none_
  simp only [if_neg m1]
  by_cases m2 : more > 65535
  · rw [decide_eq_true m2]; exact none_
  rw [decide_eq_false m2]
  obtain ⟨ra, ha, ea⟩ := floods W H l ax ay 0 false
  obtain ⟨rb, hb, eb⟩ := floods W H l bx byy 0 false
  obtain ⟨rc, hc, ec⟩ := floods W H l ax ay tol false
  obtain ⟨rd', hd, ed⟩ := floods W H l ax ay tol true
  refine .step (fun k => by rw [imageeditorlaw24_WandRegions.j0, if_neg (by simp)]) (ea.bind (eb.bind (ec.bind (ed.bind ?_))))
  -- the second tolerance
  obtain ⟨t, ht, hgo⟩ : ∃ t, (t = tol ∨ (0 ≤ tol ∧ tol ≤ 65535 - more ∧ t = tol + more)) ∧ (Ev (fun k => imageeditorlaw24_WandRegions.j2 k ra.2.2.2 rb.2.2.2 rc.2.2.2 rd'.2.2.2 t W H l ax ay bx byy ra.1 ra.2.1 ra.2.2.1 rb.1 rb.2.1 rb.2.2.1 rc.1 rc.2.1 rc.2.2.1 rd'.1 rd'.2.1 rd'.2.2.1) true → Ev (fun k => if tol ≥ 0 then (imageeditorlaw24_WandRegions.j1 k more ra.2.2.2 rb.2.2.2 rc.2.2.2 rd'.2.2.2 tol (decide (tol ≤ (wrap64 (65535 - more)))) W H l ax ay bx byy ra.1 ra.2.1 ra.2.2.1 rb.1 rb.2.1 rb.2.2.1 rc.1 rc.2.1 rc.2.2.1 rd'.1 rd'.2.1 rd'.2.2.1) else (imageeditorlaw24_WandRegions.j1 k more ra.2.2.2 rb.2.2.2 rc.2.2.2 rd'.2.2.2 tol false W H l ax ay bx byy ra.1 ra.2.1 ra.2.2.1 rb.1 rb.2.1 rb.2.2.1 rc.1 rc.2.1 rc.2.2.1 rd'.1 rd'.2.1 rd'.2.2.1)) true) := by
    have no : ∀ {K : Nat → Option Bool}, Ev K true → (∀ k, imageeditorlaw24_WandRegions.j1 (k + 1) more ra.2.2.2 rb.2.2.2 rc.2.2.2 rd'.2.2.2 tol false W H l ax ay bx byy ra.1 ra.2.1 ra.2.2.1 rb.1 rb.2.1 rb.2.2.1 rc.1 rc.2.1 rc.2.2.1 rd'.1 rd'.2.1 rd'.2.2.1 = K k) → Ev (fun k => imageeditorlaw24_WandRegions.j1 k more ra.2.2.2 rb.2.2.2 rc.2.2.2 rd'.2.2.2 tol false W H l ax ay bx byy ra.1 ra.2.1 ra.2.2.1 rb.1 rb.2.1 rb.2.2.1 rc.1 rc.2.1 rc.2.2.1 rd'.1 rd'.2.1 rd'.2.2.1) true := fun h e => .step e h
    have e0 : wrap64 (65535 - more) = 65535 - more := w64 (by omega) (by omega)
    by_cases t1 : tol ≥ 0
    · by_cases t2 : tol ≤ 65535 - more
      · refine ⟨tol + more, .inr ⟨t1, t2, rfl⟩, fun h => ?_⟩
        simp only [if_pos t1, e0, decide_eq_true t2]
        refine .step (fun k => by rw [imageeditorlaw24_WandRegions.j1, if_pos rfl, w64 (by omega) (by omega)]) h
      · refine ⟨tol, .inl rfl, fun h => ?_⟩
        simp only [if_pos t1, e0, decide_eq_false t2]
        exact no h fun k => by rw [imageeditorlaw24_WandRegions.j1, if_neg (by simp)]
    · refine ⟨tol, .inl rfl, fun h => ?_⟩
      simp only [if_neg t1]
      exact no h fun k => by rw [imageeditorlaw24_WandRegions.j1, if_neg (by simp)]
  refine hgo ?_
  clear hgo
  obtain ⟨rx, hx, ex⟩ := floods W H l ax ay t false
  have err1 : rc.2.2.2 = rd'.2.2.2 := by rw [hc.err, hd.err]
  have err2 : rc.2.2.2 = rx.2.2.2 := by
    rw [hc.err, hx.err]
    unfold floodErr
    by_cases h1 : chk W H l = 0
    case neg => rw [if_neg h1, if_neg h1]
    rw [if_pos h1, if_pos h1]
    by_cases h2 : 0 ≤ ax ∧ ax < W ∧ 0 ≤ ay ∧ ay < H ∧ 0 ≤ tol ∧ tol ≤ 65535
    · rw [if_pos h2, if_pos (by omega)]
    · rw [if_neg h2, if_neg (by omega)]
  -- the last part: more is selected
  have last : Ev (fun k => imageeditorlaw24_WandRegions.j5 k rc.2.2.2 rd'.2.2.2 rx.2.2.2 rc.1 rc.2.1 rc.2.2.1 rd'.1 rd'.2.1 rd'.2.2.1 rx.1 rx.2.1 rx.2.2.1) true := by
    refine .step (fun k => by rw [imageeditorlaw24_WandRegions.j5, if_pos err1]) ?_
    refine .step (fun k => by rw [imageeditorlaw24_WandRegions.j6, if_neg (by simp [err2])]) ?_
    have key : rc.2.2.1.length = rd'.2.2.1.length ∧ rc.2.2.1.length = rx.2.2.1.length ∧ (rc.2.2.1.length : Int) ≤ 65536 ∧ ∀ i : Int, 0 ≤ i → i < rc.2.2.1.length → rd rc.2.2.1 i ≠ 0 → rd rd'.2.2.1 i ≠ 0 ∧ rd rx.2.2.1 i ≠ 0 := by
      by_cases h0 : rc.2.2.2 = 0
      · obtain ⟨h1, hi, ht1, C, hC, fC⟩ := hc.ok h0
        obtain ⟨_, _, _, D, hD, fD⟩ := hd.ok (err1 ▸ h0)
        obtain ⟨_, _, _, X, hX, fX⟩ := hx.ok (err2 ▸ h0)
        have e1 := fC.len
        have e2 := fD.len
        have e3 := fX.len
        have hs := (chk_ok h1).1
        have ha := area hs
        rw [hC, hD, hX]
        simp only
        refine ⟨by omega, by omega, by omega, fun i hi0 hi1 hv => ?_⟩
        have hW : 0 < W := by have := hi.1; have := hi.2.1; omega
        obtain ⟨hp, he⟩ := place_of hW hi0 (by rw [← e1]; exact hi1)
        rw [← he] at hv ⊢
        have hr : Reach W H (simS W l (rd_T37 l (ay * W + ax)) tol) false ax ay (i % W) (i / W) := Classical.byContradiction fun hr => hv (fC.off _ _ hp hr)
        refine ⟨?_, ?_⟩
        · rw [fD.on _ _ hp (hr.mono (fun _ _ _ h => h) (fun h => by cases h))]; omega
        · rw [fX.on _ _ hp (hr.mono (fun u v _ h => by unfold simS at h ⊢; omega) id)]; omega
      · rw [hc.none h0, hd.none (err1 ▸ h0), hx.none (err2 ▸ h0)]
        refine ⟨rfl, rfl, by simp, fun i h h' => absurd h' (by simpa using h)⟩
    obtain ⟨k1, k2, k3, k4⟩ := key
    simp only [if_pos (show (rc.2.2.1.length : Int) = (rd'.2.2.1.length : Int) by omega)]
    refine .step (fun k => by rw [imageeditorlaw24_WandRegions.j7, if_neg (by simp [k2])]) ?_
    exact regionLoop k3 k1 k2 k4 _ _ _ _ _ _ rc.2.2.1.length 0 (by omega)
  refine .step (fun k => by rw [imageeditorlaw24_WandRegions.j2]) (ex.bind ?_)
  have skip : Ev (fun k => imageeditorlaw24_WandRegions.j3 k rc.2.2.2 rd'.2.2.2 rx.2.2.2 false W H l bx byy ra.1 ra.2.1 ra.2.2.1 rb.1 rb.2.1 rb.2.2.1 rc.1 rc.2.1 rc.2.2.1 rd'.1 rd'.2.1 rd'.2.2.1 rx.1 rx.2.1 rx.2.2.1) true := by
    refine .step (fun k => by rw [imageeditorlaw24_WandRegions.j3, if_neg (by simp)]) last
  by_cases ha0 : ra.2.2.2 = 0
  case neg => simp only [if_neg ha0]; exact skip
  simp only [if_pos ha0]
  by_cases hb0 : rb.2.2.2 = 0
  case neg => rw [show (rb.2.2.2 == 0) = false by simpa using hb0]; exact skip
  rw [show (rb.2.2.2 == 0) = true by simpa using hb0]
  obtain ⟨h1, hia, _, A, hA, fA⟩ := ha.ok ha0
  obtain ⟨_, hib, _, B, hB, fB⟩ := hb.ok hb0
  have e1 := fA.len
  have e2 := fB.len
  obtain ⟨hs, hl, _⟩ := chk_ok h1
  have har := area hs
  have hsd := (sidesOk_iff W H).1 hs
  have hp := place_in hib
  obtain ⟨i1, i2, i3, i4⟩ := hib
  have hib : Ins W H bx byy := ⟨i1, i2, i3, i4⟩
  have hm := Int.mul_nonneg i3 (show 0 ≤ W by omega)
  have f1 : wrap64 (byy * W) = byy * W := w64 (by omega) (by omega)
  have f2 : wrap64 (byy * W + bx) = byy * W + bx := w64 (by omega) (by omega)
  rw [hA, hB]
  simp only
  refine .step (fun k => by rw [imageeditorlaw24_WandRegions.j3, if_pos rfl, if_pos (by omega), if_pos (by omega)]) ?_
  refine (check_eq' W H l).bind ?_
  simp only [h1, if_true, if_neg (show ¬ bx < 0 by omega), if_neg (show ¬ bx ≥ W by omega), if_neg (show ¬ byy < 0 by omega), decide_eq_false (show ¬ byy ≥ H by omega)]
  refine .step (fun k => by rw [imageeditorlaw24_WandRegions.j4, if_neg (by simp), f1, f2, if_pos hp.1, if_pos (by omega)]) ?_
  by_cases hv : rd A (byy * W + bx) = 0
  · simp only [if_pos hv]; exact last
  simp only [if_neg hv]
  obtain rfl := zero_same hia hib fA fB hv
  refine (same_eq _ (by omega) _ _).bind ?_
  simp only [if_true]
  exact last
end Go.Proofs.Ytmmncannibnklaa.Pure
