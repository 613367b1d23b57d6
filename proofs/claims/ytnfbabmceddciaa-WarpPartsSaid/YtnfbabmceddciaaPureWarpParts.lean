/- WarpParts in plain words: the result for a part is the part of the result. For every image, mesh, kernel and part. -/
import Derived.Test.YtnfbabmceddciaaPNeed
import Derived.Test.YtnfbabmceddciaaPCut
import Derived.Test.YtnfbabmceddciaaG12
import Derived.Test.YtnfbabmceddciaaG13
import Derived.Test.YtnfbabmceddciaaG29
namespace Go.Proofs.Ytnfbabmceddciaa.Pure
open Go.RowKit Go.Proofs.YtnfbabmceddciaaW.PrintWords Go.Proofs.YtnfbabmceddciaaW.PrintLast Go.Proofs.YtnfbabmceddciaaW.PrintMore Go.Proofs.Ytnfbabmceddciaa.G
set_option linter.unusedVariables false
set_option linter.unusedSimpArgs false

theorem awake_eq : Ev (fun k => imageeditorlaw15_awake.f k) true := .of imageeditorlaw15_awake.mono imageeditorlaw15_awake.known
theorem chk_fill {w h : Nat} {g : Int → Int → S48} (hs : sidesOk (w : Int) (h : Int) = true) (hg : ∀ x y, pxOkS (g x y) = true) : chk (w : Int) (h : Int) (fillL w (h * w) g) = 0 := by
  have hl : ((fillL w (h * w) g).length : Int) = (w : Int) * (h : Int) := by rw [fillL_length, Int.natCast_mul, Int.mul_comm]
  have ha : (fillL w (h * w) g).all pxOkS = true := by
    rw [List.all_eq_true]
    intro p hp
    simp only [fillL, List.mem_map] at hp
    obtain ⟨i, _, rfl⟩ := hp
    exact hg _ _
  unfold chk
  rw [if_pos ⟨hs, hl⟩, if_pos ha]
theorem pick_fill {W H : Nat} {g : Int → Int → S48} {x y : Int} (h : Ins (W : Int) (H : Int) x y) : pick (W : Int) (H : Int) (fillL W (H * W) g) x y = g x y := by
  have pl := place_in h
  rw [pick_in h, fillL_get g pl.1 (by rw [Int.natCast_mul, Int.mul_comm (H : Int)]; exact pl.2), place_mod h.1 h.2.1, place_div h.1 h.2.1]
theorem WarpParts : ∀ (a0_0 : Int) (a0_1 : Int) (a0_2 : List S48) (a1_0 : Int) (a1_1 : Int) (a1_2 : Int) (a1_3 : List S28) (a2 : Int) (a3_0 : Int) (a3_1 : Int) (a3_2 : Int) (a3_3 : Int), ((Lit.int .i64 a0_0).wf = true ∧ (Lit.int .i64 a0_1).wf = true ∧ (a0_2.length ≤ maxLen ∧ ∀ x ∈ a0_2, (Lit.int .i64 x.f0).wf = true ∧ (Lit.int .i64 x.f1).wf = true ∧ (Lit.int .i64 x.f2).wf = true ∧ (Lit.int .i64 x.f3).wf = true)) → ((Lit.int .i64 a1_0).wf = true ∧ (Lit.int .i64 a1_1).wf = true ∧ (Lit.int .i64 a1_2).wf = true ∧ (a1_3.length ≤ maxLen ∧ ∀ x ∈ a1_3, (Lit.int .i64 x.f0).wf = true ∧ (Lit.int .i64 x.f1).wf = true)) → (Lit.int .i64 a2).wf = true → ((Lit.int .i64 a3_0).wf = true ∧ (Lit.int .i64 a3_1).wf = true ∧ (Lit.int .i64 a3_2).wf = true ∧ (Lit.int .i64 a3_3).wf = true) → ∃ k, imageeditorlaw15_WarpParts.f k a0_0 a0_1 a0_2 a1_0 a1_1 a1_2 a1_3 a2 a3_0 a3_1 a3_2 a3_3 = some true := by
  intro W H P c r st D kd x y w h _ _ _ _
  unfold imageeditorlaw15_WarpParts.f
  refine Ev.rounds ((check_eq W H P).bind ?_)
  by_cases hc : chk W H P = 0
  case neg => simp only [if_neg hc]; exact awake_eq.bind (.now _)
  simp only [if_pos hc]
  obtain ⟨hs, hl, _⟩ := chk_ok hc
  obtain ⟨W, H, rfl, rfl, hW, hH, hz⟩ := nats hs
  by_cases hO : needOk c r st D kd x y w h 0 0 W H
  case neg =>
    obtain ⟨e2, h2, d2⟩ := draw_bad (P := P) (ax := 0) (ay := 0) hc hO
    have bad : ∀ e1 q1 q2 q3, Ev (fun k => imageeditorlaw15_WarpParts.j0 k e1 e2 true x y w h q1 q2 q3 0 0 []) true := by
      intro e1 q1 q2 q3
      refine .step (fun k => by rw [imageeditorlaw15_WarpParts.j0, if_pos rfl, if_neg h2]) ?_
      exact awake_eq.bind (.now _)
    have go : ∀ R : Int × Int × List S48 × Int, Ev (fun k => warp_Draw.f k W H P 0 0 0 0 W H c r st D kd 0 0 W H) R → Ev (fun k => (warp_Draw.f k W H P 0 0 0 0 W H c r st D kd 0 0 W H).bind fun bt815 => ((warp_Draw.f k W H P 0 0 0 0 W H c r st D kd x y w h).bind fun bt822 => (if bt815.2.2.2 = 0 then (imageeditorlaw15_WarpParts.j0 k bt815.2.2.2 bt822.2.2.2 (bt822.2.2.2 != 0) x y w h bt815.1 bt815.2.1 bt815.2.2.1 bt822.1 bt822.2.1 bt822.2.2.1) else (imageeditorlaw15_WarpParts.j0 k bt815.2.2.2 bt822.2.2.2 true x y w h bt815.1 bt815.2.1 bt815.2.2.1 bt822.1 bt822.2.1 bt822.2.2.1)))) true := by
      intro R hR
      refine hR.bind (d2.bind ?_)
      dsimp only
      by_cases c1 : R.2.2.2 = 0
      · simp only [if_pos c1, show (e2 != 0) = true from bne_iff_ne.2 h2]
        exact bad _ _ _ _
      · simp only [if_neg c1]
        exact bad _ _ _ _
    by_cases hB : needOk c r st D kd 0 0 W H 0 0 W H
    case neg =>
      obtain ⟨e1, _, d1⟩ := draw_bad (P := P) (ax := 0) (ay := 0) hc hB
      exact go _ d1
    obtain ⟨F, hF⟩ := taps_fn hB.2.1
    obtain ⟨G, hG⟩ := pix_fn
    obtain ⟨f1, f2, f3, f4, f5⟩ := need_f hB
    refine go _ (draw_eq (F := F) (G := G) (nr := fun a b => rd_T48 P ((cw b 0 H - 0) * W + (cw a 0 W - 0))) hF (fun s => (hG s).1) hc hB (by omega) (by omega) (by omega) (by omega) ?_)
    intro u v hu hv i j hi hj
    have c1 := cw_b (a := wrap64 ((txV kd c r st D F (0 + (u : Int)) (0 + (v : Int))).1 + i)) (X := 0) (W := W) (by omega)
    have c2 := cw_b (a := wrap64 ((tyV kd c r st D F (0 + (u : Int)) (0 + (v : Int))).1 + j)) (X := 0) (W := H) (by omega)
    exact near_eq hc (by omega) (by omega) (by omega) (by omega) (by omega) (by omega) ⟨by omega, by omega, by omega, by omega⟩
  obtain ⟨f1, f2, f3, f4, f5⟩ := need_f hO
  have hB : needOk c r st D kd 0 0 W H 0 0 W H := ⟨hO.1, hO.2.1, hO.2.2.2.1, hO.2.2.2.1, by omega, by simp only [winR, decide_eq_true_eq]; omega⟩
  obtain ⟨b1, b2, b3, b4, b5⟩ := need_f hB
  obtain ⟨w, rfl⟩ := Int.eq_ofNat_of_zero_le (show 0 ≤ w by omega)
  obtain ⟨h, rfl⟩ := Int.eq_ofNat_of_zero_le (show 0 ≤ h by omega)
  obtain ⟨F, hF⟩ := taps_fn hB.2.1
  obtain ⟨G, hG⟩ := pix_fn
  have near : ∀ ox oy : Int, nearAll kd W H P 0 0 0 0 W H c r st D F (fun a b => rd_T48 P ((cw b 0 H - 0) * W + (cw a 0 W - 0))) ox oy := by
    intro ox oy i j hi hj
    have c1 := cw_b (a := wrap64 ((txV kd c r st D F ox oy).1 + i)) (X := 0) (W := W) (by omega)
    have c2 := cw_b (a := wrap64 ((tyV kd c r st D F ox oy).1 + j)) (X := 0) (W := H) (by omega)
    exact near_eq hc (by omega) (by omega) (by omega) (by omega) (by omega) (by omega) ⟨by omega, by omega, by omega, by omega⟩
  have d1 := draw_eq (F := F) (G := G) hF (fun s => (hG s).1) hc hB (by omega) (by omega) (by omega) (by omega) (fun u v _ _ => near _ _)
  have d2 := draw_eq (F := F) (G := G) hF (fun s => (hG s).1) hc hO (by omega) (by omega) (by omega) (by omega) (fun u v _ _ => near _ _)
  generalize hg : pxV kd c r st D F G (fun a b => rd_T48 P ((cw b 0 H - 0) * W + (cw a 0 W - 0))) = g at d1 d2
  have hgo : ∀ x y, pxOkS (g x y) = true := fun x y => by rw [← hg]; exact (hG _).2
  refine d1.bind (d2.bind ?_)
  simp only [if_true, bne_self_eq_false]
  refine .step (fun k => by rw [imageeditorlaw15_WarpParts.j0, if_neg (by simp)]) ?_
  have hf : chk (W : Int) (H : Int) (fillL W (H * W) (fun u v => g (0 + u) (0 + v))) = 0 := chk_fill hs (fun x y => hgo _ _)
  have cr := crop_eq (W : Int) (H : Int) (fillL W (H * W) (fun u v => g (0 + u) (0 + v))) x y (w : Int) (h : Int)
  have ce : cropR (W : Int) (H : Int) (fillL W (H * W) (fun u v => g (0 + u) (0 + v))) x y (w : Int) (h : Int) = ((w : Int), (h : Int), fillL w (h * w) (fun u v => g (x + u) (y + v)), 0) := by
    unfold cropR
    rw [if_pos hf, if_pos hO.2.2.1, if_neg (by omega), if_neg (by omega), Int.toNat_natCast, Int.toNat_natCast]
    congr 3
    refine fillL_congr (fun u v hu hi => ?_) (.inl (by omega))
    have hv : v < h := by
      rcases Nat.lt_or_ge v h with q | q
      · exact q
      · have := Nat.mul_le_mul_right w q
        omega
    rw [pick_fill ⟨by omega, by omega, by omega, by omega⟩, Int.zero_add, Int.zero_add]
  rw [ce] at cr
  refine cr.bind ?_
  simp only [if_true]
  have hsm : ((fillL w (h * w) (fun u v => g (x + u) (y + v))).length : Int) ≤ 65536 := by
    rw [fillL_length]
    exact Int.ofNat_le.2 (Nat.le_trans (Nat.mul_le_mul (show h ≤ 256 by omega) (show w ≤ 256 by omega)) (by decide))
  refine (same_eq _ hsm (w : Int) (h : Int)).bind ?_
  simp only [if_true]
  exact awake_eq.bind (.now _)
end Go.Proofs.Ytnfbabmceddciaa.Pure
