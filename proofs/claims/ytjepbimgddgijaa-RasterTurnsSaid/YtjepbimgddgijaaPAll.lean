/- Images in plain words: a pixel of an image, an image that is computed row by row, equal images; the examples hold. No conditions. -/
import Derived.Test.YtjepbimgddgijaaPBase
import Derived.Test.YtjepbimgddgijaaG1
import Derived.Test.YtjepbimgddgijaaG4
import Derived.Test.YtjepbimgddgijaaG10
import Derived.Test.YtjepbimgddgijaaG11
namespace Go.Proofs.Ytjepbimgddgijaa.Pure
open Go.RowKit Go.Proofs.YtjepbimgddgijaaW.PrintWords Go.Proofs.YtjepbimgddgijaaW.PrintLast Go.Proofs.YtjepbimgddgijaaW.PrintMore Go.Proofs.Ytjepbimgddgijaa.G
set_option linter.unusedVariables false
set_option linter.unusedSimpArgs false
theorem awake_eq : Ev (fun k => imageeditorlaw11_awake.f k) true := .of imageeditorlaw11_awake.mono imageeditorlaw11_awake.known
instance (W H x y : Int) : Decidable (Ins W H x y) := by unfold Ins; infer_instance
/-- A pixel, the zero pixel outside. -/
def pick (W H : Int) (l : List S26) (x y : Int) : S26 := if Ins W H x y then rd_T26 l (y * W + x) else z26
theorem pick_in {W H : Int} {l : List S26} {x y : Int} (h : Ins W H x y) : pick W H l x y = rd_T26 l (y * W + x) := if_pos h
theorem pick_out {W H : Int} {l : List S26} {x y : Int} (h : ¬ Ins W H x y) : pick W H l x y = z26 := if_neg h
theorem get_eq {W H : Int} {l : List S26} (hs : sidesOk W H = true) (hl : (l.length : Int) = W * H) (x y : Int) : raster_get.f W H l x y = some ((pick W H l x y).f0, (pick W H l x y).f1, (pick W H l x y).f2, (pick W H l x y).f3) := by
  have ha := area hs
  unfold raster_get.f
  by_cases c1 : x < 0
  · rw [if_pos c1, pick_out (fun h => by have := h.1; omega)]; rfl
  by_cases c2 : x ≥ W
  · rw [if_neg c1, if_pos c2, pick_out (fun h => by have := h.2.1; omega)]; rfl
  by_cases c3 : y < 0
  · rw [if_neg c1, if_neg c2, if_pos c3, pick_out (fun h => by have := h.2.2.1; omega)]; rfl
  by_cases c4 : y ≥ H
  · rw [if_neg c1, if_neg c2, if_neg c3, if_pos c4, pick_out (fun h => by have := h.2.2.2; omega)]; rfl
  have hi : Ins W H x y := ⟨by omega, by omega, by omega, by omega⟩
  have hp := place_in hi
  have hm := Int.mul_nonneg (show 0 ≤ y by omega) (show 0 ≤ W by omega)
  have e1 : wrap64 (y * W) = y * W := w64 (by omega) (by omega)
  have e2 : wrap64 (y * W + x) = y * W + x := w64 (by omega) (by omega)
  rw [if_neg c1, if_neg c2, if_neg c3, if_neg c4, e1, e2, if_pos hp.1, if_pos (by omega), pick_in hi]
theorem pick_eq {W H : Int} {l : List S26} (hs : sidesOk W H = true) (hl : (l.length : Int) = W * H) (x y : Int) : imageeditorref11_Pick.f W H l x y = some ((pick W H l x y).f0, (pick W H l x y).f1, (pick W H l x y).f2, (pick W H l x y).f3) := get_eq hs hl x y
theorem rows_abs {R : Type} (w h : Nat) (g : Int → Int → S26) (hw : w ≤ 256) (hh : h ≤ 256) (F0 : Nat → Int → List S26 → Option R) (F1 : Nat → Int → Int → List S26 → Option R) (fin : List S26 → R)
    (h0 : ∀ (y : Nat) (acc : List S26) (r : R), y < h → Ev (fun k => F1 k (y : Int) 0 acc) r → Ev (fun k => F0 k (y : Int) acc) r)
    (h1 : ∀ (y x : Nat) (acc : List S26) (r : R), y < h → x < w → acc.length ≤ 65536 → Ev (fun k => F1 k (y : Int) ((x : Int) + 1) (acc ++ [g (x : Int) (y : Int)])) r → Ev (fun k => F1 k (y : Int) (x : Int) acc) r)
    (h2 : ∀ (y : Nat) (acc : List S26) (r : R), y < h → Ev (fun k => F0 k ((y : Int) + 1) acc) r → Ev (fun k => F1 k (y : Int) (w : Int) acc) r)
    (h3 : ∀ acc : List S26, Ev (fun k => F0 k (h : Int) acc) (fin acc)) : Ev (fun k => F0 k 0 []) (fin (fillL w (h * w) g)) := by
  have inner : ∀ (y : Nat) (r : R), y < h → Ev (fun k => F0 k ((y : Int) + 1) (fillL w ((y + 1) * w) g)) r → ∀ (m x : Nat), x + m = w → Ev (fun k => F1 k (y : Int) (x : Int) (fillL w (y * w + x) g)) r := by
    intro y r hy hn m
    induction m with
    | zero =>
      intro x hx
      obtain rfl : x = w := by omega
      refine h2 y _ r hy ?_
      rw [show y * x + x = (y + 1) * x by rw [Nat.succ_mul]]
      exact hn
    | succ m ih =>
      intro x hx
      have hyw : y * w + x ≤ 65536 := by
        have := Nat.mul_le_mul (show y ≤ 255 by omega) hw
        omega
      refine h1 y x _ r hy (by omega) (by rw [fillL_length]; exact hyw) ?_
      rw [fillL_step (show x < w by omega)]
      exact ih (x + 1) (by omega)
  have outer : ∀ (m y : Nat), y + m = h → Ev (fun k => F0 k (y : Int) (fillL w (y * w) g)) (fin (fillL w (h * w) g)) := by
    intro m
    induction m with
    | zero =>
      intro y hy
      obtain rfl : y = h := by omega
      exact h3 _
    | succ m ih =>
      intro y hy
      refine h0 y _ _ (by omega) ?_
      exact inner y _ (by omega) (ih (y + 1) (by omega)) w 0 (by omega)
  have := outer h 0 (by omega)
  simpa [fillL] using this
theorem fillL_congr {w n : Nat} {g g' : Int → Int → S26} (h : ∀ x y : Nat, x < w → y * w + x < n → g (x : Int) (y : Int) = g' (x : Int) (y : Int)) (hw : 0 < w ∨ n = 0) : fillL w n g = fillL w n g' := by
  unfold fillL
  refine List.map_congr_left fun i hi => ?_
  have hi' := List.mem_range.1 hi
  have hw' : 0 < w := by omega
  refine h _ _ (Nat.mod_lt _ hw') ?_
  rw [Nat.mul_comm, Nat.div_add_mod]
  exact hi'
/-- What an image function returns. -/
abbrev Res := Int × Int × List S26 × Int
theorem pix_same (p : S26) : (!(p.f0 == p.f0) || (!(p.f1 == p.f1) || (!(p.f2 == p.f2) || (!(p.f3 == p.f3))))) = false := by simp
theorem sameLoop (V : List S26) (hV : (V.length : Int) ≤ 65536) (W H W' H' : Int) : ∀ (n i : Nat), i + n = V.length → Ev (fun k => imageeditorlaw11_same.l0 k (V.length : Int) (i : Int) W H V W' H' V) true := by
  intro n
  induction n with
  | zero => intro i hi; exact .step (f := fun _ => some true) (fun k => by rw [imageeditorlaw11_same.l0, if_neg (by omega)]) (.now _)
  | succ n ih =>
    intro i hi
    refine .step (fun k => by rw [imageeditorlaw11_same.l0, if_pos (by omega), if_pos (by omega), if_pos (by omega), if_pos (by omega), pix_same, if_neg (by simp), w64 (by omega) (by omega)]) ?_
    exact ih (i + 1) (by omega)
theorem same_eq (V : List S26) (hV : (V.length : Int) ≤ 65536) (W H : Int) : Ev (fun k => imageeditorlaw11_same.f k W H V W H V) true := by
  unfold imageeditorlaw11_same.f
  simp only [if_true]
  refine .step (fun k => by rw [imageeditorlaw11_same.j0, if_neg (by simp)]) ?_
  exact sameLoop V hV W H W H V.length 0 (by omega)
theorem chk_small {W H : Int} {l : List S26} (h : chk W H l = 0) : (l.length : Int) ≤ 65536 := by
  obtain ⟨hs, hl, _⟩ := chk_ok h
  have := area hs
  omega
theorem nats {W H : Int} (hs : sidesOk W H = true) : ∃ w h : Nat, W = (w : Int) ∧ H = (h : Int) ∧ w ≤ 256 ∧ h ≤ 256 ∧ (w = 0 ↔ h = 0) := by
  have hsd := (sidesOk_iff W H).1 hs
  obtain ⟨w, rfl⟩ := Int.eq_ofNat_of_zero_le hsd.1
  obtain ⟨h, rfl⟩ := Int.eq_ofNat_of_zero_le hsd.2.2.1
  exact ⟨w, h, rfl, rfl, by omega, by omega, by omega⟩
end Go.Proofs.Ytjepbimgddgijaa.Pure
