/- Needs and Draw in plain words, errors too. -/
import Derived.Test.YtnfbabmceddciaaPDraw
import Derived.Test.YtnfbabmceddciaaPRectP
import Derived.Test.YtnfbabmceddciaaG1
import Derived.Test.YtnfbabmceddciaaG8
import Derived.Test.YtnfbabmceddciaaG9
import Derived.Test.YtnfbabmceddciaaG12
namespace Go.Proofs.Ytnfbabmceddciaa.Pure
open Go.RowKit Go.Proofs.YtnfbabmceddciaaW.PrintWords Go.Proofs.YtnfbabmceddciaaW.PrintLast Go.Proofs.YtnfbabmceddciaaW.PrintMore Go.Proofs.Ytnfbabmceddciaa.G
set_option linter.unusedVariables false
set_option linter.unusedSimpArgs false

/-- Needs answers. -/
def needOk (c r s : Int) (D : List S28) (kind x y w h X Y W H : Int) : Prop := chkW c r s D = 0 ∧ (0 ≤ kind ∧ kind ≤ 4) ∧ validR x y w h = true ∧ validR X Y W H = true ∧ ¬ (w = 0 ∨ h = 0) ∧ winR x y w h X Y W H = true
def padV (c r s : Int) (D : List S28) (kind : Int) : Int := reachV c r s D + supV kind + 1
theorem reachV_b {c r s : Int} {D : List S28} (h : chkW c r s D = 0) : 0 ≤ reachV c r s D ∧ reachV c r s D ≤ 16 := by
  have hM := mst_b D 0 (chkW_ok h).2 (by omega) (by omega)
  unfold reachV
  rw [if_pos h]
  omega
theorem padV_b {c r s : Int} {D : List S28} (h : chkW c r s D = 0) (kind : Int) : 2 ≤ padV c r s D kind ∧ padV c r s D kind ≤ 19 := by
  have a := reachV_b h
  have b := supV_b kind
  unfold padV
  omega
def loV (x n X : Int) : Int := mx (g0 x n) X
def hiV (x w n X W : Int) : Int := mn (g1 x w n) (X + W)
theorem span_f {x w n X W : Int} (h1 : -1048576 ≤ x) (h2 : 0 < w) (h3 : x + w ≤ 1048576) (h4 : 0 ≤ n) (h5 : X ≤ x) (h6 : x + w ≤ X + W) : loV x n X ≤ x ∧ X ≤ loV x n X ∧ x + w ≤ hiV x w n X W ∧ hiV x w n X W ≤ X + W := by
  have g := g_b h1 h2 h3 h4
  unfold loV hiV mx mn
  split <;> split <;> omega
section
variable {c r s : Int} {D : List S28} {kind x y w h X Y W H : Int}
theorem needs_ok (hn : needOk c r s D kind x y w h X Y W H) : Ev (fun k => warp_Needs.f k c r s D kind x y w h X Y W H) (loV x (padV c r s D kind) X, loV y (padV c r s D kind) Y, hiV x w (padV c r s D kind) X W - loV x (padV c r s D kind) X, hiV y h (padV c r s D kind) Y H - loV y (padV c r s D kind) Y, 0) := by
  obtain ⟨h0, hk, hv, hV, he, hwin⟩ := hn
  have hw : w ≠ 0 := by omega
  have hh : h ≠ 0 := by omega
  have f := valid_f hv
  have F := valid_f hV
  have e := hwin
  simp only [winR, decide_eq_true_eq] at e
  have k1 := wcheck_eq c r s D
  rw [h0] at k1
  unfold warp_Needs.f
  refine k1.bind ?_
  simp only [if_true, kvalid_eq, Option.bind_some, decide_eq_true hk, rvalid_eq, if_pos hv, if_pos hV, rempty_eq _ _ _ _ hv, decide_eq_false he, Bool.false_eq_true, if_false, within_eq hv hw hh hV, hwin, Bool.not_true]
  have pb := padV_b h0 kind
  have rb := reachV_b h0
  have sb := supV_b kind
  have hr := reach_eq c r s D
  unfold padV at *
  generalize reachV c r s D = n0 at *
  have hn : wrap64 ((wrap64 (n0 + supV kind)) + 1) = n0 + supV kind + 1 := by rw [w64 (x := n0 + supV kind) (by omega) (by omega), w64 (by omega) (by omega)]
  have gr := grow_eq hv hw hh (n := n0 + supV kind + 1) (by omega) (by omega)
  have su := support_eq hk
  generalize supV kind = z at *
  have ax := g_b (x := x) (w := w) (n := n0 + z + 1) (by omega) (by omega) (by omega) (by omega)
  have ay := g_b (x := y) (w := h) (n := n0 + z + 1) (by omega) (by omega) (by omega) (by omega)
  unfold growR at gr
  unfold loV hiV
  generalize g0 x (n0 + z + 1) = p0 at *
  generalize g1 x w (n0 + z + 1) = p1 at *
  generalize g0 y (n0 + z + 1) = q0 at *
  generalize g1 y h (n0 + z + 1) = r1 at *
  have vG : validR p0 q0 (p1 - p0) (r1 - q0) = true := valid_m (by omega)
  have d1 : mx p0 X < mn (p0 + (p1 - p0)) (X + W) := by unfold mx mn; split <;> split <;> omega
  have d2 : mx q0 Y < mn (q0 + (r1 - q0)) (Y + H) := by unfold mx mn; split <;> split <;> omega
  have me := meet_eq vG hV d1 d2
  rw [show p0 + (p1 - p0) = p1 by omega, show q0 + (r1 - q0) = r1 by omega] at me
  refine .step (fun k => by rw [warp_Needs.j0, if_neg (by simp)]) ?_
  refine hr.bind ?_
  simp only [su, Option.bind_some, hn]
  refine gr.bind ?_
  simp only [me, Option.bind_some]
  exact .now _
theorem needs_bad (hn : ¬ needOk c r s D kind x y w h X Y W H) : ∃ e, e ≠ 0 ∧ Ev (fun k => warp_Needs.f k c r s D kind x y w h X Y W H) (0, 0, 0, 0, e) := by
  have bad : Ev (fun k => warp_Needs.j0 k kind true c r s D x y w h X Y W H) (0, 0, 0, 0, 2) := .step (f := fun _ => some (0, 0, 0, 0, 2)) (fun k => by rw [warp_Needs.j0, if_pos rfl]) (.now _)
  have k1 := wcheck_eq c r s D
  unfold warp_Needs.f
  by_cases h0 : chkW c r s D = 0
  case neg => exact ⟨chkW c r s D, h0, k1.bind (by simp only [if_neg h0]; exact .now _)⟩
  rw [h0] at k1
  by_cases hk : 0 ≤ kind ∧ kind ≤ 4
  case neg =>
    refine ⟨8, by decide, k1.bind ?_⟩
    simp only [if_true, kvalid_eq, Option.bind_some, decide_eq_false hk, Bool.false_eq_true, if_false]
    exact .now _
  refine ⟨2, by decide, k1.bind ?_⟩
  simp only [if_true, kvalid_eq, Option.bind_some, decide_eq_true hk, rvalid_eq]
  by_cases hv : validR x y w h = true
  case neg => simp only [if_neg hv]; exact bad
  simp only [if_pos hv]
  by_cases hV : validR X Y W H = true
  case neg => simp only [if_neg hV]; exact bad
  simp only [if_pos hV, rempty_eq _ _ _ _ hv, Option.bind_some]
  by_cases he : w = 0 ∨ h = 0
  · simp only [decide_eq_true he, if_true]; exact bad
  simp only [decide_eq_false he, Bool.false_eq_true, if_false]
  have hw : w ≠ 0 := by omega
  have hh : h ≠ 0 := by omega
  simp only [within_eq hv hw hh hV, Option.bind_some]
  cases e : winR x y w h X Y W H with
  | false => exact bad
  | true => exact absurd ⟨h0, hk, hv, hV, he, e⟩ hn
theorem need_f (hn : needOk c r s D kind x y w h X Y W H) : (0 < w ∧ 0 < h ∧ -1048576 ≤ x ∧ x + w ≤ 1048576 ∧ -1048576 ≤ y ∧ y + h ≤ 1048576) ∧ (X ≤ x ∧ x + w ≤ X + W ∧ Y ≤ y ∧ y + h ≤ Y + H) ∧ (-1048576 ≤ X ∧ X + W ≤ 1048576 ∧ -1048576 ≤ Y ∧ Y + H ≤ 1048576) ∧ (loV x (padV c r s D kind) X ≤ x ∧ X ≤ loV x (padV c r s D kind) X ∧ x + w ≤ hiV x w (padV c r s D kind) X W ∧ hiV x w (padV c r s D kind) X W ≤ X + W) ∧ (loV y (padV c r s D kind) Y ≤ y ∧ Y ≤ loV y (padV c r s D kind) Y ∧ y + h ≤ hiV y h (padV c r s D kind) Y H ∧ hiV y h (padV c r s D kind) Y H ≤ Y + H) := by
  obtain ⟨h0, hk, hv, hV, he, hwin⟩ := hn
  have f := valid_f hv
  have F := valid_f hV
  simp only [winR, decide_eq_true_eq] at hwin
  have pb := padV_b h0 kind
  refine ⟨by omega, by omega, by omega, span_f (by omega) (by omega) (by omega) (by omega) (by omega) (by omega), span_f (by omega) (by omega) (by omega) (by omega) (by omega) (by omega)⟩
end
theorem covers1_eq {a b p q : Int} (h : -4000000 ≤ a ∧ a ≤ 4000000) (h1 : 0 ≤ b ∧ b ≤ 256) (h2 : -4000000 ≤ p ∧ p ≤ 4000000) (h3 : 0 < q ∧ q ≤ 4000000) : warp_covers_1.f a b p q = some (decide (a ≤ p ∧ p + q ≤ a + b)) := by
  unfold warp_covers_1.f
  rw [w64 (x := p + q) (by omega) (by omega), w64 (x := p + q - 1) (by omega) (by omega), w64 (x := p + q - 1 - b) (by omega) (by omega)]
  by_cases c : a ≤ p
  · rw [if_pos c]; congr 1; exact decide_eq_decide.2 (by omega)
  · rw [if_neg c, decide_eq_false (by omega)]
theorem covers_eq {W H : Int} (P : List S48) {a b p q m n : Int} (hs : sidesOk W H = true) (h : -4000000 ≤ a ∧ a ≤ 4000000) (h' : -4000000 ≤ b ∧ b ≤ 4000000) (h2 : -4000000 ≤ p ∧ p ≤ 4000000) (h2' : -4000000 ≤ q ∧ q ≤ 4000000) (h3 : 0 < m ∧ m ≤ 4000000) (h3' : 0 < n ∧ n ≤ 4000000) (hx : a ≤ p ∧ p + m ≤ a + W) (hy : b ≤ q ∧ q + n ≤ b + H) : warp_covers.f W H P a b p q m n = some true := by
  have s := (sidesOk_iff W H).1 hs
  unfold warp_covers.f
  rw [covers1_eq h ⟨s.1, s.2.1⟩ h2 h3, Option.bind_some, decide_eq_true hx, if_pos rfl, covers1_eq h' ⟨s.2.2.1, s.2.2.2.1⟩ h2' h3', Option.bind_some, decide_eq_true hy]
/-- A coordinate, limited to the bounds. -/
def cw (a X W : Int) : Int := mn (X + W - 1) (mx a X)
theorem cw_b {a X W : Int} (h : 0 < W) : X ≤ cw a X W ∧ cw a X W ≤ X + W - 1 := by unfold cw mn mx; split <;> split <;> omega
theorem clampW (a X W : Int) : num_Clamp.f a X (X + W - 1) = some (cw a X W) := by
  unfold num_Clamp.f cw
  rfl
theorem near_eq {W H : Int} {P : List S48} {ax ay X Y BW BH a b : Int} (hc : chk W H P = 0) (hX : -4000000 ≤ X ∧ X ≤ 4000000) (hY : -4000000 ≤ Y ∧ Y ≤ 4000000) (hBW : 0 < BW ∧ BW ≤ 4000000) (hBH : 0 < BH ∧ BH ≤ 4000000) (hax : -4000000 ≤ ax ∧ ax ≤ 4000000) (hay : -4000000 ≤ ay ∧ ay ≤ 4000000) (hi : Ins W H (cw a X BW - ax) (cw b Y BH - ay)) : nearIs W H P ax ay X Y BW BH a b (rd_T48 P ((cw b Y BH - ay) * W + (cw a X BW - ax))) := by
  obtain ⟨hs, hl, _⟩ := chk_ok hc
  have s := (sidesOk_iff W H).1 hs
  have ar := area hs
  have pl := place_in hi
  have c1 := cw_b (a := a) (X := X) hBW.1
  have c2 := cw_b (a := b) (X := Y) hBH.1
  have m1 : 0 ≤ (cw b Y BH - ay) * W := Int.mul_nonneg hi.2.2.1 s.1
  have e3 := hi.1
  have e4 := hi.2.1
  unfold nearIs warp_Draw_1.f
  rw [w64 (x := X + BW) (by omega) (by omega), w64 (x := X + BW - 1) (by omega) (by omega), w64 (x := Y + BH) (by omega) (by omega), w64 (x := Y + BH - 1) (by omega) (by omega)]
  rw [clampW, clampW, Option.bind_some, Option.bind_some]
  rw [w64 (x := cw b Y BH - ay) (by omega) (by omega), w64 (x := cw a X BW - ax) (by omega) (by omega), w64 (x := (cw b Y BH - ay) * W) (by omega) (by omega), w64 (x := (cw b Y BH - ay) * W + (cw a X BW - ax)) (by omega) (by omega)]
  rw [if_pos pl.1, if_pos (by omega)]
theorem draw_eq {kd W H : Int} {P : List S48} {ax ay X Y BW BH c r st : Int} {D : List S28} {ox oy : Int} {w h : Nat} {F : Int → Int → Int × List Int} {G : Sm → S48} {nr : Int → Int → S48}
    (hF : ∀ v, tapsOk kd v (F kd v)) (hG : ∀ s, pixIs s (G s)) (hc : chk W H P = 0) (hn : needOk c r st D kd ox oy (w : Int) (h : Int) X Y BW BH)
    (hax : -4000000 ≤ ax ∧ ax ≤ 4000000) (hay : -4000000 ≤ ay ∧ ay ≤ 4000000)
    (hcx : ax ≤ loV ox (padV c r st D kd) X ∧ hiV ox w (padV c r st D kd) X BW ≤ ax + W) (hcy : ay ≤ loV oy (padV c r st D kd) Y ∧ hiV oy h (padV c r st D kd) Y BH ≤ ay + H)
    (hN : ∀ u v : Nat, u < w → v < h → nearAll kd W H P ax ay X Y BW BH c r st D F nr (ox + u) (oy + v)) :
    Ev (fun k => warp_Draw.f k W H P ax ay X Y BW BH c r st D kd ox oy (w : Int) (h : Int)) ((w : Int), (h : Int), fillL w (h * w) (fun u v => pxV kd c r st D F G nr (ox + u) (oy + v)), 0) := by
  obtain ⟨hs, hl, _⟩ := chk_ok hc
  have s := (sidesOk_iff W H).1 hs
  obtain ⟨f1, f2, f3, f4, f5⟩ := need_f hn
  have k1 := check_eq W H P
  rw [hc] at k1
  have kn := needs_ok hn
  have rows := draw_rows (ox := ox) (oy := oy) (w := w) (h := h) hF hG hn.1 (by omega) (by omega) (by omega) (by omega) hN
  generalize loV ox (padV c r st D kd) X = p at *
  generalize loV oy (padV c r st D kd) Y = q at *
  generalize hiV ox w (padV c r st D kd) X BW = p' at *
  generalize hiV oy h (padV c r st D kd) Y BH = q' at *
  have kc := covers_eq P (a := ax) (b := ay) (p := p) (q := q) (m := p' - p) (n := q' - q) hs hax hay (by omega) (by omega) (by omega) (by omega) (by omega) (by omega)
  have ha := Nat.mul_le_mul (show w ≤ 256 by omega) (show h ≤ 256 by omega)
  have z1 : 0 ≤ ((w * h : Nat) : Int) := Int.natCast_nonneg _
  have z2 : ((w * h : Nat) : Int).toNat ≤ 8796093022208 := by rw [Int.toNat_natCast]; exact Nat.le_trans ha (by decide)
  have z3 : ((w * h : Nat) : Int) ≤ 65536 := Int.ofNat_le.2 ha
  have e : wrap64 ((w : Int) * (h : Int)) = ((w * h : Nat) : Int) := by
    rw [← Int.natCast_mul]
    exact w64 (Int.le_trans (by decide) z1) (Int.le_trans z3 (by decide))
  unfold warp_Draw.f
  refine k1.bind ?_
  simp only [if_true]
  refine kn.bind ?_
  simp only [if_true, kc, Option.bind_some, e, if_pos z1, if_pos z2]
  exact rows
theorem draw_bad {kd W H : Int} {P : List S48} {ax ay X Y BW BH c r st : Int} {D : List S28} {ox oy w h : Int} (hc : chk W H P = 0) (hn : ¬ needOk c r st D kd ox oy w h X Y BW BH) :
    ∃ e, e ≠ 0 ∧ Ev (fun k => warp_Draw.f k W H P ax ay X Y BW BH c r st D kd ox oy w h) (0, 0, [], e) := by
  have k1 := check_eq W H P
  rw [hc] at k1
  obtain ⟨e, he, kn⟩ := needs_bad hn
  refine ⟨e, he, ?_⟩
  unfold warp_Draw.f
  refine k1.bind ?_
  simp only [if_true]
  refine kn.bind ?_
  simp only [if_neg he]
  exact .now _
theorem taps_fn {kd : Int} (hk : 0 ≤ kd ∧ kd ≤ 4) : ∃ F : Int → Int → Int × List Int, ∀ v, tapsOk kd v (F kd v) := ⟨fun _ v => Classical.choose (taps_tot hk v), fun v => Classical.choose_spec (taps_tot hk v)⟩
theorem pix_fn : ∃ G : Sm → S48, ∀ s, pixIs s (G s) ∧ pxOkS (G s) = true := ⟨fun s => Classical.choose (pix_tot s), fun s => by
  have h := Classical.choose_spec (pix_tot s)
  exact ⟨h.1, (pxOk_iff _ _ _ _).2 h.2⟩⟩
end Go.Proofs.Ytnfbabmceddciaa.Pure
