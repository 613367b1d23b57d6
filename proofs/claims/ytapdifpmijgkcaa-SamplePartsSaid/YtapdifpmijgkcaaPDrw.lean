/- Draw in plain words: its errors, and each pixel of its result. -/
import Derived.Test.YtapdifpmijgkcaaPSrc
import Derived.Test.YtapdifpmijgkcaaPRectP
import Derived.Test.YtapdifpmijgkcaaG1
import Derived.Test.YtapdifpmijgkcaaG2
import Derived.Test.YtapdifpmijgkcaaG3
import Derived.Test.YtapdifpmijgkcaaG4
import Derived.Test.YtapdifpmijgkcaaG7
import Derived.Test.YtapdifpmijgkcaaG8
namespace Go.Proofs.Ytapdifpmijgkcaa.Pure
open Go.RowKit Go.Proofs.YtapdifpmijgkcaaW.PrintWords Go.Proofs.YtapdifpmijgkcaaW.PrintLast Go.Proofs.YtapdifpmijgkcaaW.PrintMore Go.Proofs.Ytapdifpmijgkcaa.G
set_option linter.unusedVariables false
set_option linter.unusedSimpArgs false
set_option linter.unusedSectionVars false

theorem dot_tot (a b c d : Int) : ∃ r, Ev (fun k => affine_dot.f k a b c d) r := by
  obtain ⟨x, hx⟩ := floor_tot c 65536
  obtain ⟨y, hy⟩ := floor_tot d 65536
  unfold affine_dot.f
  simp only [hx, hy, Option.bind_some]
  obtain ⟨r, hr⟩ := div_tot (wrap64 ((wrap64 (a * (wrap64 (c - (wrap64 (x * 65536)))))) + (wrap64 (b * (wrap64 (d - (wrap64 (y * 65536)))))))) 65536
  exact ⟨_, hr.bind (.now _)⟩
theorem position_eq (a : Int) : affine_position.f a = some (posV a) := rfl
theorem limit_eq' (a : Int) : sample_limit.f a = some (posV a) := rfl
theorem limited_tot (a b c d e f : Int) : ∃ r, affine_limited.f a b c d e f = some r := ⟨_, rfl⟩
theorem apply_tot (a b c d e f x y : Int) : ∃ r, Ev (fun k => affine_Apply.f k a b c d e f x y) r := by
  obtain ⟨L, hL⟩ := limited_tot a b c d e f
  obtain ⟨r, hr⟩ := dot_tot L.1 L.2.2.1 (posV x) (posV y)
  obtain ⟨q, hq⟩ := dot_tot L.2.1 L.2.2.2.1 (posV x) (posV y)
  unfold affine_Apply.f
  simp only [hL, Option.bind_some, position_eq]
  exact ⟨_, hr.bind (hq.bind (.now _))⟩
theorem acheck_tot (a b c d e f : Int) : ∃ r, affine_Check.f a b c d e f = some r := by
  obtain ⟨L, hL⟩ := limited_tot a b c d e f
  unfold affine_Check.f
  rw [hL, Option.bind_some]
  split
  · exact ⟨_, rfl⟩
  · exact ⟨_, rfl⟩
theorem inv1_tot (a b : Int) : ∃ r, Ev (fun k => affine_Inverse_1.f k a b) r := by
  obtain ⟨r, hr⟩ := div_tot (wrap64 ((wrap64 (a * 65536)) * 65536)) b
  exact ⟨r, hr.bind (.now _)⟩
theorem inverse_tot (a b c d e f : Int) : ∃ R, Ev (fun k => affine_Inverse.f k a b c d e f) R := by
  obtain ⟨t, ht⟩ := acheck_tot a b c d e f
  unfold affine_Inverse.f
  simp only [ht, Option.bind_some]
  by_cases h0 : t = 0
  case neg => simp only [if_neg h0]; exact ⟨_, .now _⟩
  simp only [if_pos h0]
  by_cases h1 : wrap64 ((wrap64 (a * d)) - (wrap64 (b * c))) = 0
  · simp only [if_pos h1]; exact ⟨_, .now _⟩
  simp only [if_neg h1]
  obtain ⟨p, hp⟩ := inv1_tot d (wrap64 ((wrap64 (a * d)) - (wrap64 (b * c))))
  obtain ⟨q, hq⟩ := inv1_tot (wrap64 (-b)) (wrap64 ((wrap64 (a * d)) - (wrap64 (b * c))))
  obtain ⟨s, hs⟩ := inv1_tot (wrap64 (-c)) (wrap64 ((wrap64 (a * d)) - (wrap64 (b * c))))
  obtain ⟨u, hu⟩ := inv1_tot a (wrap64 ((wrap64 (a * d)) - (wrap64 (b * c))))
  obtain ⟨v, hv⟩ := acheck_tot p q s u 0 0
  have key : ∃ R, Ev (fun k => (if v = 0 then ((affine_dot.f k (wrap64 (-p)) (wrap64 (-s)) e f).bind fun t162 => ((affine_dot.f k (wrap64 (-q)) (wrap64 (-u)) e f).bind fun t163 => ((affine_Check.f p q s u t162 t163).bind fun t164 => (if t164 = 0 then (some (p, q, s, u, t162, t163, 0)) else (some (0, 0, 0, 0, 0, 0, 17)))))) else (some ((0, 0, 0, 0, 0, 0, 17) : Int × Int × Int × Int × Int × Int × Int)))) R := by
    by_cases h2 : v = 0
    case neg => simp only [if_neg h2]; exact ⟨_, .now _⟩
    simp only [if_pos h2]
    obtain ⟨m, hm⟩ := dot_tot (wrap64 (-p)) (wrap64 (-s)) e f
    obtain ⟨n, hn⟩ := dot_tot (wrap64 (-q)) (wrap64 (-u)) e f
    obtain ⟨x, hx⟩ := acheck_tot p q s u m n
    by_cases h3 : x = 0
    · exact ⟨_, hm.bind (hn.bind (by simp only [hx, Option.bind_some, if_pos h3]; exact .now _))⟩
    · exact ⟨_, hm.bind (hn.bind (by simp only [hx, Option.bind_some, if_neg h3]; exact .now _))⟩
  obtain ⟨R, hR⟩ := key
  refine ⟨R, hp.bind (hq.bind (hs.bind (hu.bind ?_)))⟩
  simp only [hv, Option.bind_some]
  exact hR
/-- A pixel of the transformed image. -/
def pxA (S : Int → Int → S37) (ap : Int → Int → Int × Int) (X Y : Int) : S37 := S (posV (ap (wrap64 ((wrap64 (X * 65536)) + 32768)) (wrap64 ((wrap64 (Y * 65536)) + 32768))).1) (posV (ap (wrap64 ((wrap64 (X * 65536)) + 32768)) (wrap64 ((wrap64 (Y * 65536)) + 32768))).2)
section
variable {W H : Int} {l : List S37} {kd b0 b1 b2 b3 b4 b5 : Int} {S : Int → Int → S37} {ap : Int → Int → Int × Int}
theorem draw_rows (hS : ∀ x y, Ev (fun k => sample_source_at.f k W H l false kd x y) ((S x y).f0, (S x y).f1, (S x y).f2, (S x y).f3)) (hap : ∀ x y, Ev (fun k => affine_Apply.f k b0 b1 b2 b3 b4 b5 x y) (ap x y)) {ox oy : Int} {w h : Nat} (hw : w ≤ 256) (hh : h ≤ 256) (hx : -2000000 ≤ ox ∧ ox ≤ 2000000) (hy : -2000000 ≤ oy ∧ oy ≤ 2000000) :
    Ev (fun k => sample_Draw.l0 k kd (h : Int) 0 ox oy (w : Int) (h : Int) b0 b1 b2 b3 b4 b5 W H l false (w : Int) (h : Int) []) ((w : Int), (h : Int), fillL w (h * w) (fun u v => pxA S ap (ox + u) (oy + v)), 0) := by
  refine rows_abs w h (fun u v => pxA S ap (ox + u) (oy + v)) hw hh (fun k y acc => sample_Draw.l0 k kd (h : Int) y ox oy (w : Int) (h : Int) b0 b1 b2 b3 b4 b5 W H l false (w : Int) (h : Int) acc) (fun k y x acc => sample_Draw.l1 k kd y (h : Int) y (w : Int) x ox oy (w : Int) (h : Int) b0 b1 b2 b3 b4 b5 W H l false (w : Int) (h : Int) acc) (fun acc => ((w : Int), (h : Int), acc, 0)) ?_ ?_ ?_ ?_
  · intro v acc R hv hE
    exact .step (fun k => by rw [sample_Draw.l0, if_pos (by omega)]) hE
  · intro v u acc R hv hu hacc hE
    refine .step (fun k => by rw [sample_Draw.l1, if_pos (by omega), w64 (x := ox + (u : Int)) (by omega) (by omega), w64 (x := oy + (v : Int)) (by omega) (by omega)]) ((hap _ _).bind ?_)
    simp only [limit_eq', Option.bind_some]
    refine (hS _ _).bind ?_
    simp only [if_pos (show acc.length < 4398046511104 by omega), w64 (show -9223372036854775808 ≤ (u : Int) + 1 by omega) (by omega)]
    exact hE
  · intro v acc R hv hE
    exact .step (fun k => by rw [sample_Draw.l1, if_neg (by omega), w64 (show -9223372036854775808 ≤ (v : Int) + 1 by omega) (by omega)]) hE
  · intro acc
    exact .step (fun k => by rw [sample_Draw.l0, if_neg (by omega)]) (.now _)
end
/-- Draw answers without error. -/
def drawOk (W H : Int) (l : List S37) (R : Int × Int × Int × Int × Int × Int × Int) (kd x y w h : Int) : Prop := chk W H l = 0 ∧ validR x y w h = true ∧ w ≤ 256 ∧ h ≤ 256 ∧ (0 ≤ kd ∧ kd ≤ 4) ∧ R.2.2.2.2.2.2 = 0
section
variable {W H : Int} {l : List S37} {a b c d e f : Int} {R : Int × Int × Int × Int × Int × Int × Int} (hR : Ev (fun k => affine_Inverse.f k a b c d e f) R) {kd x y : Int}
include hR
theorem draw_bad {w h : Int} (hn : ¬ drawOk W H l R kd x y w h) : ∃ e', e' ≠ 0 ∧ Ev (fun k => sample_Draw.f k W H l a b c d e f kd x y w h) (0, 0, [], e') := by
  unfold sample_Draw.f
  have k1 := check_eq W H l
  by_cases hc : chk W H l = 0
  case neg => exact ⟨_, hc, k1.bind (by simp only [if_neg hc]; exact .now _)⟩
  rw [hc] at k1
  by_cases hv : validR x y w h = true
  case neg => exact ⟨2, by decide, k1.bind (by simp only [if_true, rvalid_eq, Option.bind_some, if_neg hv]; exact .now _)⟩
  have j : ∀ s : Bool, (s = false → ¬ (w ≤ 256 ∧ h ≤ 256 ∧ (0 ≤ kd ∧ kd ≤ 4) ∧ R.2.2.2.2.2.2 = 0)) → (s = false → w ≤ 256 ∧ h ≤ 256) → ∃ e', e' ≠ 0 ∧ Ev (fun k => sample_Draw.j0 k kd s W H l a b c d e f x y w h) (0, 0, [], e') := by
    intro s hs hs'
    cases s with
    | true => exact ⟨15, by decide, .step (f := fun _ => some (0, 0, [], 15)) (fun k => by rw [sample_Draw.j0, if_pos rfl]) (.now _)⟩
    | false =>
      have hs := hs rfl
      have hs' := hs' rfl
      by_cases hk : 0 ≤ kd ∧ kd ≤ 4
      case neg => exact ⟨8, by decide, .step (f := fun _ => some (0, 0, [], 8)) (fun k => by rw [sample_Draw.j0, if_neg (by simp), kvalid_eq, Option.bind_some, decide_eq_false hk]; rfl) (.now _)⟩
      have he : R.2.2.2.2.2.2 ≠ 0 := fun q => hs ⟨hs'.1, hs'.2, hk, q⟩
      refine ⟨R.2.2.2.2.2.2, he, .step (fun k => by rw [sample_Draw.j0, if_neg (by simp), kvalid_eq, Option.bind_some, decide_eq_true hk, if_pos rfl]) (hR.bind ?_)⟩
      simp only [if_neg he]
      exact .step (f := fun _ => some (0, 0, [], R.2.2.2.2.2.2)) (fun k => by rw [sample_Draw.j1, if_pos rfl]) (.now _)
  by_cases c1 : w > 256
  · obtain ⟨e', h0, hE⟩ := j true (fun q => by cases q) (fun q => by cases q)
    exact ⟨e', h0, k1.bind (by simp only [if_true, rvalid_eq, Option.bind_some, if_pos hv, if_pos c1]; exact hE)⟩
  by_cases c2 : h > 256
  · obtain ⟨e', h0, hE⟩ := j true (fun q => by cases q) (fun q => by cases q)
    exact ⟨e', h0, k1.bind (by simp only [if_true, rvalid_eq, Option.bind_some, if_pos hv, if_neg c1, decide_eq_true c2]; exact hE)⟩
  obtain ⟨e', h0, hE⟩ := j false (fun _ q => hn ⟨hc, hv, q.1, q.2.1, q.2.2.1, q.2.2.2⟩) (fun _ => ⟨by omega, by omega⟩)
  exact ⟨e', h0, k1.bind (by simp only [if_true, rvalid_eq, Option.bind_some, if_pos hv, if_neg c1, decide_eq_false c2]; exact hE)⟩
theorem draw_to {w h : Int} (hn : drawOk W H l R kd x y w h) {r : Int × Int × List S37 × Int} (hE : Ev (fun k => sample_Draw.j1 k kd 0 (decide (w = 0 ∨ h = 0)) W H l x y w h R.1 R.2.1 R.2.2.1 R.2.2.2.1 R.2.2.2.2.1 R.2.2.2.2.2.1) r) : Ev (fun k => sample_Draw.f k W H l a b c d e f kd x y w h) r := by
  obtain ⟨hc, hv, hw, hh, hk, h0⟩ := hn
  have k1 := check_eq W H l
  rw [hc] at k1
  unfold sample_Draw.f
  refine k1.bind ?_
  simp only [if_true, rvalid_eq, Option.bind_some, if_pos hv, if_neg (show ¬ w > 256 by omega), decide_eq_false (show ¬ h > 256 by omega)]
  refine .step (fun k => by rw [sample_Draw.j0, if_neg (by simp), kvalid_eq, Option.bind_some, decide_eq_true hk, if_pos rfl]) (hR.bind ?_)
  simp only [h0, if_true, rempty_eq x y w h hv, Option.bind_some]
  exact hE
theorem draw_none {w h : Int} (hn : drawOk W H l R kd x y w h) (he : w = 0 ∨ h = 0) : Ev (fun k => sample_Draw.f k W H l a b c d e f kd x y w h) (0, 0, [], 0) :=
  draw_to hR hn (.step (f := fun _ => some (0, 0, [], 0)) (fun k => by rw [sample_Draw.j1, if_pos (decide_eq_true he)]) (.now _))
theorem draw_some {w h : Nat} {S : Int → Int → S37} {ap : Int → Int → Int × Int} (hn : drawOk W H l R kd x y (w : Int) (h : Int)) (he : ¬ ((w : Int) = 0 ∨ (h : Int) = 0)) (hS : ∀ x y, Ev (fun k => sample_source_at.f k W H l false kd x y) ((S x y).f0, (S x y).f1, (S x y).f2, (S x y).f3)) (hap : ∀ x y, Ev (fun k => affine_Apply.f k R.1 R.2.1 R.2.2.1 R.2.2.2.1 R.2.2.2.2.1 R.2.2.2.2.2.1 x y) (ap x y)) : Ev (fun k => sample_Draw.f k W H l a b c d e f kd x y (w : Int) (h : Int)) ((w : Int), (h : Int), fillL w (h * w) (fun u v => pxA S ap (x + u) (y + v)), 0) := by
  have f := valid_f hn.2.1
  have w2 := hn.2.2.1
  have h2 := hn.2.2.2.1
  refine draw_to hR hn (.step (fun k => by rw [sample_Draw.j1, if_neg (by rw [decide_eq_false he]; simp)]) ?_)
  exact draw_rows hS hap (by omega) (by omega) (by omega) (by omega)
end
theorem at_fn {W H : Int} {l : List S37} (hc : chk W H l = 0) {kd : Int} (hk : 0 ≤ kd ∧ kd ≤ 4) : ∃ S : Int → Int → S37, (∀ x y, Ev (fun k => sample_source_at.f k W H l false kd x y) ((S x y).f0, (S x y).f1, (S x y).f2, (S x y).f3)) ∧ ∀ x y, pxOkS (S x y) = true :=
  ⟨fun x y => Classical.choose (at_tot hc hk x y), fun x y => (Classical.choose_spec (at_tot hc hk x y)).1, fun x y => (Classical.choose_spec (at_tot hc hk x y)).2⟩
theorem ap_fn (a b c d e f : Int) : ∃ ap : Int → Int → Int × Int, ∀ x y, Ev (fun k => affine_Apply.f k a b c d e f x y) (ap x y) := ⟨fun x y => Classical.choose (apply_tot a b c d e f x y), fun x y => Classical.choose_spec (apply_tot a b c d e f x y)⟩
end Go.Proofs.Ytapdifpmijgkcaa.Pure
