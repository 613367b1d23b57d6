/- WarpMoves in plain words: with a displacement by whole pixels, each pixel of the result is the pixel of the image that lies there. For every image, kernel and displacement. -/
import Derived.Test.YtnfbabmceddciaaPNeed
import Derived.Test.YtnfbabmceddciaaPExact
import Derived.Test.YtnfbabmceddciaaG13
import Derived.Test.YtnfbabmceddciaaG25
import Derived.Test.YtnfbabmceddciaaG26
import Derived.Test.YtnfbabmceddciaaG27
namespace Go.Proofs.Ytnfbabmceddciaa.Pure
open Go.RowKit Go.Proofs.YtnfbabmceddciaaW.PrintWords Go.Proofs.YtnfbabmceddciaaW.PrintLast Go.Proofs.YtnfbabmceddciaaW.PrintMore Go.Proofs.Ytnfbabmceddciaa.G
set_option linter.unusedVariables false
set_option linter.unusedSimpArgs false

theorem awake_eq : Ev (fun k => imageeditorlaw15_awake.f k) true := .of imageeditorlaw15_awake.mono imageeditorlaw15_awake.known
theorem get_eq {W H : Int} {l : List S48} (hs : sidesOk W H = true) (hl : (l.length : Int) = W * H) (x y : Int) : raster_get.f W H l x y = some ((pick W H l x y).f0, (pick W H l x y).f1, (pick W H l x y).f2, (pick W H l x y).f3) := by
  have ha := area hs
  unfold raster_get.f
  by_cases c1 : x < 0
  · rw [if_pos c1, pick_out (fun h => by have := h.1; omega)]; rfl
  by_cases c2 : x ≥ W
  · rw [if_neg c1, if_pos c2, pick_out (fun h => by have := h.2.1; omega)]; rfl
  by_cases c3 : y < 0
  · rw [if_neg c1, if_neg c2, if_pos c3, pick_out (fun h => by have := h.2.2.1; omega)]; rfl
  by_cases c4 : y ≥ H
  · rw [if_neg c1, if_neg c2, if_neg c3, if_pos c4, pick_out (fun h => by have := h.2.2.2; omega)]; rfl
  have hi : Ins W H x y := ⟨by omega, by omega, by omega, by omega⟩
  have hp := place_in hi
  have hm := Int.mul_nonneg (show 0 ≤ y by omega) (show 0 ≤ W by omega)
  have e1 : wrap64 (y * W) = y * W := w64 (by omega) (by omega)
  have e2 : wrap64 (y * W + x) = y * W + x := w64 (by omega) (by omega)
  rw [if_neg c1, if_neg c2, if_neg c3, if_neg c4, e1, e2, if_pos hp.1, if_pos (by omega), pick_in hi]
theorem pxOk_rd {l : List S48} (h : l.all pxOkS = true) (i : Int) : pxOkS (rd_T48 l i) = true := by
  unfold rd_T48
  rw [List.getD_eq_getElem?_getD]
  by_cases c : i.toNat < l.length
  · rw [List.getElem?_eq_getElem c]
    exact List.all_eq_true.1 h _ (List.getElem_mem c)
  · rw [List.getElem?_eq_none (by omega)]
    decide
theorem pxOk_pick {W H : Int} {l : List S48} (h : l.all pxOkS = true) (x y : Int) : pxOkS (pick W H l x y) = true := by
  unfold pick
  split
  · exact pxOk_rd h _
  · decide
/-- The pixel nearest to a place. -/
def nrV (W H : Int) (P : List S48) (a b : Int) : S48 := pick W H P (cw a 0 W) (cw b 0 H)
theorem edge_eq {W H : Int} {P : List S48} (hc : chk W H P = 0) (x y : Int) : Ev (fun k => raster_Edge.f k W H P x y) ((nrV W H P x y).f0, (nrV W H P x y).f1, (nrV W H P x y).f2, (nrV W H P x y).f3) := by
  obtain ⟨hs, hl, _⟩ := chk_ok hc
  have s := (sidesOk_iff W H).1 hs
  have k1 := check_eq W H P
  rw [hc] at k1
  unfold raster_Edge.f
  refine k1.bind ?_
  simp only [if_true, get_eq hs hl, Option.bind_some]
  rw [w64 (x := W - 1) (by omega) (by omega), w64 (x := H - 1) (by omega) (by omega), mn_comm (mx x 0), mn_comm (mx y 0), show W - 1 = 0 + W - 1 by omega, show H - 1 = 0 + H - 1 by omega]
  exact .now _
theorem px_uniq {s : Sm} {p q : S48} (h : pixIs s p) (h' : pixIs s q) : p = q := by
  unfold pixIs at h h'
  have e := ev_uniq h h'
  cases p
  cases q
  simp only [Prod.mk.injEq] at e
  obtain ⟨rfl, rfl, rfl, rfl, _⟩ := e
  rfl
/-- A pixel that is clear becomes the zero pixel. -/
def clr (p : S48) : S48 := if p.f3 = 0 then z48 else p
theorem px_move {kd m n : Int} {d : S28} {F : Int → Int → Int × List Int} {G : Sm → S48} {nr : Int → Int → S48} (hk : 0 ≤ kd ∧ kd ≤ 3) (hF : ∀ v, tapsOk kd v (F kd v)) (hG : ∀ s, pixIs s (G s)) (hnr : ∀ a b, pxOkS (nr a b) = true) (hm : -16 ≤ m ∧ m ≤ 16) (hn : -16 ≤ n ∧ n ≤ 16) (hd0 : d.f0 = m * 65536) (hd1 : d.f1 = n * 65536) {x y : Int} (hx : 0 ≤ x ∧ x ≤ 256) (hy : 0 ≤ y ∧ y ≤ 256) : pxV kd 2 2 3 [d, d, d, d] F G nr x y = clr (nr (x + m) (y + n)) := by
  have arg : ∀ z c v : Int, 0 ≤ z ∧ z ≤ 256 → -16 ≤ c ∧ c ≤ 16 → v = c * 65536 → F kd (wrap64 ((wrap64 ((wrap64 (z * 65536)) + 32768)) + v)) = ((z + c) - supV kd + 1, wts kd) := by
    intro z c v hz hc hv
    rw [hv, w64 (x := z * 65536) (by omega) (by omega), w64 (x := z * 65536 + 32768) (by omega) (by omega), w64 (x := z * 65536 + 32768 + c * 65536) (by omega) (by omega), show z * 65536 + 32768 + c * 65536 = (z + c) * 65536 + 32768 by omega]
    exact ev_uniq (hF _).1 (taps_at hk (by omega))
  have tx : txV kd 2 2 3 [d, d, d, d] F x y = ((x + m) - supV kd + 1, wts kd) := by
    unfold txV
    rw [flat_at]
    exact arg x m _ hx hm hd0
  have ty : tyV kd 2 2 3 [d, d, d, d] F x y = ((y + n) - supV kd + 1, wts kd) := by
    unfold tyV
    rw [flat_at]
    exact arg y n _ hy hn hd1
  unfold pxV
  rw [tx, ty]
  show G (colS nr (x + m - supV kd + 1) (wts kd) (y + n - supV kd + 1) (wts kd) 0 sm0) = _
  rw [col_exact hk nr (by omega) (by omega)]
  exact px_uniq (hG _) (one_pix (hnr _ _))
theorem add_w {x W : Nat} {m : Int} (hx : x < W) (hW : W ≤ 256) (hm : -16 ≤ m ∧ m ≤ 16) : wrap64 ((x : Int) + m) = (x : Int) + m := w64 (by omega) (by omega)
theorem succ_w {x W : Nat} (hx : x < W) (hW : W ≤ 256) : wrap64 ((x : Int) + 1) = ((x + 1 : Nat) : Int) := by rw [w64 (by omega) (by omega)]; rfl
section
variable {W H : Nat} {P T : List S48} {m n : Int} (hc : chk (W : Int) (H : Int) P = 0) (hW : W ≤ 256) (hH : H ≤ 256) (hm : -16 ≤ m ∧ m ≤ 16) (hn : -16 ≤ n ∧ n ≤ 16) (hT : T = fillL W (H * W) (fun u v => clr (nrV W H P (u + m) (v + n))))
include hc hW hT
theorem move_at {x y : Nat} (hx : x < W) (hy : y < H) : (0 ≤ wrap64 ((wrap64 ((y : Int) * (W : Int))) + (x : Int)) ∧ wrap64 ((wrap64 ((y : Int) * (W : Int))) + (x : Int)) < (T.length : Int)) ∧ rd_T48 T (wrap64 ((wrap64 ((y : Int) * (W : Int))) + (x : Int))) = clr (nrV W H P ((x : Int) + m) ((y : Int) + n)) := by
  have hi : Ins (W : Int) (H : Int) (x : Int) (y : Int) := ⟨by omega, by omega, by omega, by omega⟩
  have pl := place_in hi
  have hs := (chk_ok hc).1
  have ar := area hs
  have m1 := Int.mul_nonneg (show 0 ≤ (y : Int) by omega) (show 0 ≤ (W : Int) by omega)
  have e : wrap64 ((wrap64 ((y : Int) * (W : Int))) + (x : Int)) = (y : Int) * (W : Int) + (x : Int) := by rw [w64 (x := (y : Int) * (W : Int)) (by omega) (by omega), w64 (by omega) (by omega)]
  have el : (T.length : Int) = (W : Int) * (H : Int) := by rw [hT, fillL_length, Int.natCast_mul, Int.mul_comm]
  rw [e, el]
  refine ⟨pl, ?_⟩
  rw [hT, fillL_get _ pl.1 (by rw [Int.natCast_mul, Int.mul_comm (H : Int)]; exact pl.2), place_mod hi.1 hi.2.1, place_div hi.1 hi.2.1]
include hH hm hn
theorem move_l1 {y : Nat} (hy : y < H) (next : Ev (fun k => imageeditorlaw15_WarpMoves.l0 k m n (H : Int) ((y + 1 : Nat) : Int) (W : Int) (H : Int) P (W : Int) (H : Int) T) true) : ∀ (c x : Nat), x + c = W → Ev (fun k => imageeditorlaw15_WarpMoves.l1 k m n (y : Int) (H : Int) (y : Int) (W : Int) (x : Int) (W : Int) (H : Int) P (W : Int) (H : Int) T) true := by
  intro c
  induction c with
  | zero =>
    intro x hx
    exact .step (fun k => by rw [imageeditorlaw15_WarpMoves.l1, if_neg (by omega), succ_w hy hH]) next
  | succ c ih =>
    intro x hx
    have ih' := ih (x + 1) (by omega)
    obtain ⟨⟨i0, i1⟩, hv⟩ := move_at hc hW hT (show x < W by omega) hy
    have ed := edge_eq hc ((x : Int) + m) ((y : Int) + n)
    have hx' : x < W := by omega
    have ew := succ_w hx' hW
    have ex := add_w hx' hW hm
    have ey := add_w hy hH hn
    have lt : (x : Int) < (W : Int) := Int.ofNat_lt.2 hx'
    refine .step (fun k => by rw [imageeditorlaw15_WarpMoves.l1, if_pos lt, ex, ey]) (ed.bind ?_)
    simp only [if_pos i0, if_pos i1, hv, ew]
    generalize nrV W H P ((x : Int) + m) ((y : Int) + n) = p
    unfold clr
    by_cases h0 : p.f3 = 0
    · simp only [if_pos h0, show (!(z48.f0 == 0) || (!(z48.f1 == 0) || (!(z48.f2 == 0) || !(z48.f3 == 0)))) = false by decide, Bool.false_eq_true, if_false]
      exact ih'
    · simp only [if_neg h0, pix_same, Bool.false_eq_true, if_false]
      exact ih'
theorem move_l0 : ∀ (c y : Nat), y + c = H → Ev (fun k => imageeditorlaw15_WarpMoves.l0 k m n (H : Int) (y : Int) (W : Int) (H : Int) P (W : Int) (H : Int) T) true := by
  intro c
  induction c with
  | zero =>
    intro y hy
    exact .step (fun k => by rw [imageeditorlaw15_WarpMoves.l0, if_neg (by omega)]) (awake_eq.bind (.now _))
  | succ c ih =>
    intro y hy
    exact .step (fun k => by rw [imageeditorlaw15_WarpMoves.l0, if_pos (by omega)]; rfl) (move_l1 hc hW hH hm hn hT (by omega) (ih (y + 1) (by omega)) W 0 (by omega))
end
theorem WarpMoves : ∀ (a0_0 : Int) (a0_1 : Int) (a0_2 : List S48) (a1 : Int) (a2 : Int) (a3 : Int), ((Lit.int .i64 a0_0).wf = true ∧ (Lit.int .i64 a0_1).wf = true ∧ (a0_2.length ≤ maxLen ∧ ∀ x ∈ a0_2, (Lit.int .i64 x.f0).wf = true ∧ (Lit.int .i64 x.f1).wf = true ∧ (Lit.int .i64 x.f2).wf = true ∧ (Lit.int .i64 x.f3).wf = true)) → (Lit.int .i64 a1).wf = true → (Lit.int .i64 a2).wf = true → (Lit.int .i64 a3).wf = true → ∃ k, imageeditorlaw15_WarpMoves.f k a0_0 a0_1 a0_2 a1 a2 a3 = some true := by
  intro W H P kd m n _ _ _ _
  have out : ∀ b : Bool, b = true → Ev (fun k => imageeditorlaw15_WarpMoves.j0 k kd m n b W H P) true := by
    intro b hb
    refine .step (fun k => by rw [imageeditorlaw15_WarpMoves.j0, if_pos hb]) ?_
    exact awake_eq.bind (.now _)
  unfold imageeditorlaw15_WarpMoves.f
  refine Ev.rounds ?_
  by_cases h0 : (P.length : Int) = 0
  · simp only [if_pos h0]; exact out _ rfl
  simp only [if_neg h0]
  refine (check_eq W H P).bind ?_
  by_cases hc : chk W H P = 0
  case neg => simp only [if_neg hc]; exact out _ rfl
  simp only [if_pos hc]
  by_cases c1 : kd < 0
  · simp only [if_pos c1]; exact out _ rfl
  by_cases c2 : kd > 3
  · simp only [if_neg c1, if_pos c2]; exact out _ rfl
  by_cases c3 : m < -16
  · simp only [if_neg c1, if_neg c2, if_pos c3]; exact out _ rfl
  by_cases c4 : m > 16
  · simp only [if_neg c1, if_neg c2, if_neg c3, if_pos c4]; exact out _ rfl
  by_cases c5 : n < -16
  · simp only [if_neg c1, if_neg c2, if_neg c3, if_neg c4, if_pos c5]; exact out _ rfl
  simp only [if_neg c1, if_neg c2, if_neg c3, if_neg c4, if_neg c5]
  by_cases c6 : n > 16
  · exact out _ (decide_eq_true c6)
  clear out
  obtain ⟨hs, hl, ha⟩ := chk_ok hc
  obtain ⟨W, H, rfl, rfl, hW, hH, hz⟩ := nats hs
  have hW0 : W ≠ 0 := fun h => h0 (by rw [hl, h]; simp)
  have hH0 : H ≠ 0 := fun h => h0 (by rw [hl, h]; simp)
  have em : wrap64 (m * 65536) = m * 65536 := w64 (by omega) (by omega)
  have en : wrap64 (n * 65536) = n * 65536 := w64 (by omega) (by omega)
  refine .step (fun k => by rw [imageeditorlaw15_WarpMoves.j0, if_neg (by rw [decide_eq_false c6]; simp), em, en]) ?_
  have hpt : ptOk ⟨m * 65536, n * 65536⟩ = true := by
    unfold ptOk
    exact decide_eq_true ⟨by show -1048576 ≤ m * 65536; omega, by show m * 65536 ≤ 1048576; omega, by show -1048576 ≤ n * 65536; omega, by show n * 65536 ≤ 1048576; omega⟩
  have hD : chkW 2 2 3 [⟨m * 65536, n * 65536⟩, ⟨m * 65536, n * 65536⟩, ⟨m * 65536, n * 65536⟩, ⟨m * 65536, n * 65536⟩] = 0 := by
    unfold chkW
    rw [if_pos (by unfold meshOk; exact decide_eq_true ⟨by omega, by omega, by omega, by omega, by omega, by omega, by simp⟩), if_pos (by simp [hpt])]
  have hO : needOk 2 2 3 [⟨m * 65536, n * 65536⟩, ⟨m * 65536, n * 65536⟩, ⟨m * 65536, n * 65536⟩, ⟨m * 65536, n * 65536⟩] kd 0 0 W H 0 0 W H :=
    ⟨hD, by omega, valid_m (by omega), valid_m (by omega), by omega, by simp only [winR, decide_eq_true_eq]; omega⟩
  obtain ⟨f1, f2, f3, f4, f5⟩ := need_f hO
  obtain ⟨F, hF⟩ := taps_fn hO.2.1
  obtain ⟨G, hG⟩ := pix_fn
  have near : ∀ u v : Nat, u < W → v < H → nearAll kd W H P 0 0 0 0 W H 2 2 3 [⟨m * 65536, n * 65536⟩, ⟨m * 65536, n * 65536⟩, ⟨m * 65536, n * 65536⟩, ⟨m * 65536, n * 65536⟩] F (nrV W H P) (0 + u) (0 + v) := by
    intro u v _ _ i j hi hj
    generalize wrap64 ((txV kd 2 2 3 [⟨m * 65536, n * 65536⟩, ⟨m * 65536, n * 65536⟩, ⟨m * 65536, n * 65536⟩, ⟨m * 65536, n * 65536⟩] F (0 + (u : Int)) (0 + (v : Int))).1 + i) = a
    generalize wrap64 ((tyV kd 2 2 3 [⟨m * 65536, n * 65536⟩, ⟨m * 65536, n * 65536⟩, ⟨m * 65536, n * 65536⟩, ⟨m * 65536, n * 65536⟩] F (0 + (u : Int)) (0 + (v : Int))).1 + j) = b
    have c1 := cw_b (a := a) (X := 0) (W := W) (by omega)
    have c2 := cw_b (a := b) (X := 0) (W := H) (by omega)
    have hi : Ins (W : Int) (H : Int) (cw a 0 W) (cw b 0 H) := ⟨by omega, by omega, by omega, by omega⟩
    have key := near_eq (ax := 0) (ay := 0) hc (a := a) (b := b) (X := 0) (Y := 0) (BW := W) (BH := H) (by omega) (by omega) (by omega) (by omega) (by omega) (by omega) (by rw [Int.sub_zero, Int.sub_zero]; exact hi)
    rw [Int.sub_zero, Int.sub_zero, ← pick_in hi] at key
    exact key
  have d1 := draw_eq (F := F) (G := G) hF (fun s => (hG s).1) hc hO (by omega) (by omega) (by omega) (by omega) near
  have hT : fillL W (H * W) (fun u v => pxV kd 2 2 3 [⟨m * 65536, n * 65536⟩, ⟨m * 65536, n * 65536⟩, ⟨m * 65536, n * 65536⟩, ⟨m * 65536, n * 65536⟩] F G (nrV W H P) (0 + u) (0 + v)) = fillL W (H * W) (fun u v => clr (nrV W H P (u + m) (v + n))) := by
    refine fillL_congr (fun u v hu hi => ?_) (.inl (by omega))
    have hv : v < H := by
      rcases Nat.lt_or_ge v H with q | q
      · exact q
      · have := Nat.mul_le_mul_right W q
        omega
    rw [Int.zero_add, Int.zero_add]
    exact px_move (by omega) hF (fun s => (hG s).1) (fun a b => pxOk_pick ha _ _) (by omega) (by omega) rfl rfl (by omega) (by omega)
  rw [hT] at d1
  generalize hTT : fillL W (H * W) (fun u v => clr (nrV W H P (u + m) (v + n))) = T at *
  have el : (T.length : Int) = (P.length : Int) := by rw [← hTT, fillL_length, hl, Int.natCast_mul, Int.mul_comm]
  refine d1.bind ?_
  simp only [if_true, el, bne_self_eq_false]
  refine .step (fun k => by rw [imageeditorlaw15_WarpMoves.j1, if_neg (by simp)]) ?_
  exact move_l0 hc hW hH (by omega) (by omega) hTT.symm H 0 (by omega)
end Go.Proofs.Ytnfbabmceddciaa.Pure
