/- Crop in plain words. -/
import Derived.Test.YtapdifpmijgkcaaPIm
import Derived.Test.YtapdifpmijgkcaaPRectP
import Derived.Test.YtapdifpmijgkcaaG13
import Derived.Test.YtapdifpmijgkcaaG16
namespace Go.Proofs.Ytapdifpmijgkcaa.Pure
open Go.RowKit Go.Proofs.YtapdifpmijgkcaaW.PrintWords Go.Proofs.YtapdifpmijgkcaaW.PrintLast Go.Proofs.YtapdifpmijgkcaaW.PrintMore Go.Proofs.Ytapdifpmijgkcaa.G
set_option linter.unusedVariables false
set_option linter.unusedSimpArgs false
theorem get_eq {W H : Int} {l : List S37} (hs : sidesOk W H = true) (hl : (l.length : Int) = W * H) (x y : Int) : raster_get.f W H l x y = some ((pick W H l x y).f0, (pick W H l x y).f1, (pick W H l x y).f2, (pick W H l x y).f3) := by
  have ha := area hs
  unfold raster_get.f
  by_cases c1 : x < 0
  · rw [if_pos c1, pick_out (fun h => by have := h.1; omega)]; rfl
  by_cases c2 : x ≥ W
  · rw [if_neg c1, if_pos c2, pick_out (fun h => by have := h.2.1; omega)]; rfl
  by_cases c3 : y < 0
  · rw [if_neg c1, if_neg c2, if_pos c3, pick_out (fun h => by have := h.2.2.1; omega)]; rfl
  by_cases c4 : y ≥ H
  · rw [if_neg c1, if_neg c2, if_neg c3, if_pos c4, pick_out (fun h => by have := h.2.2.2; omega)]; rfl
  have hi : Ins W H x y := ⟨by omega, by omega, by omega, by omega⟩
  have hp := place_in hi
  have hm := Int.mul_nonneg (show 0 ≤ y by omega) (show 0 ≤ W by omega)
  have e1 : wrap64 (y * W) = y * W := w64 (by omega) (by omega)
  have e2 : wrap64 (y * W + x) = y * W + x := w64 (by omega) (by omega)
  rw [if_neg c1, if_neg c2, if_neg c3, if_neg c4, e1, e2, if_pos hp.1, if_pos (by omega), pick_in hi]

/-- The image of a part. -/
def cropR (W H : Int) (l : List S37) (x y w h : Int) : Res :=
  if chk W H l = 0 then (if validR x y w h = true then (if w > 256 ∨ h > 256 then (0, 0, [], 15) else if w = 0 ∨ h = 0 then (0, 0, [], 0) else (w, h, fillL w.toNat (h.toNat * w.toNat) (fun u v => pick W H l (x + u) (y + v)), 0)) else (0, 0, [], 2)) else (0, 0, [], chk W H l)
section
variable {W H : Int} {l : List S37} (hs : sidesOk W H = true) (hl : (l.length : Int) = W * H) {x y : Int} {w h : Nat} (hw : w ≤ 256) (hh : h ≤ 256) (hx : -1048576 ≤ x ∧ x ≤ 1048576) (hy : -1048576 ≤ y ∧ y ≤ 1048576)
include hs hl hw hh hx hy
theorem crop_fill : Ev (fun k => raster_fill__raster_Crop_1.f k (w : Int) (h : Int) W H l x y (w : Int) (h : Int)) ((w : Int), (h : Int), fillL w (h * w) (fun u v => pick W H l (x + u) (y + v))) := by
  have ha := Nat.mul_le_mul hw hh
  have e : wrap64 ((w : Int) * (h : Int)) = ((w * h : Nat) : Int) := by rw [← Int.natCast_mul]; exact w64 (by omega) (by omega)
  unfold raster_fill__raster_Crop_1.f
  simp only [e, if_pos (show 0 ≤ ((w * h : Nat) : Int) by omega), if_pos (show (((w * h : Nat) : Int)).toNat ≤ 8796093022208 by omega)]
  refine rows_abs w h (fun u v => pick W H l (x + u) (y + v)) hw hh (fun k y' acc => raster_fill__raster_Crop_1.l0 k (w : Int) (h : Int) y' W H l x y (w : Int) (h : Int) (w : Int) (h : Int) acc) (fun k y' x' acc => raster_fill__raster_Crop_1.l1 k (w : Int) y' (h : Int) y' (w : Int) x' W H l x y (w : Int) (h : Int) (w : Int) (h : Int) acc) (fun acc => ((w : Int), (h : Int), acc)) ?_ ?_ ?_ ?_
  · intro v acc r hv hE
    exact .step (fun k => by rw [raster_fill__raster_Crop_1.l0, if_pos (by omega)]) hE
  · intro v u acc r hv hu hacc hE
    exact .step (fun k => by rw [raster_fill__raster_Crop_1.l1, if_pos (by omega), raster_Crop_1.f, w64 (show -9223372036854775808 ≤ x + (u : Int) by omega) (by omega), w64 (show -9223372036854775808 ≤ y + (v : Int) by omega) (by omega), get_eq hs hl, Option.bind_some, Option.bind_some, if_pos (by omega), w64 (show -9223372036854775808 ≤ (u : Int) + 1 by omega) (by omega)]) hE
  · intro v acc r hv hE
    exact .step (fun k => by rw [raster_fill__raster_Crop_1.l1, if_neg (by omega), w64 (by omega) (by omega)]) hE
  · intro acc
    exact .step (fun k => by rw [raster_fill__raster_Crop_1.l0, if_neg (by omega)]) (.now _)
end
theorem crop_eq (W H : Int) (l : List S37) (x y w h : Int) : Ev (fun k => raster_Crop.f k W H l x y w h) (cropR W H l x y w h) := by
  have bad : Ev (fun k => raster_Crop.j0 k true W H l x y w h) (0, 0, [], 15) := .step (f := fun _ => some (0, 0, [], 15)) (fun k => by rw [raster_Crop.j0, if_pos rfl]) (.now _)
  unfold raster_Crop.f cropR
  refine (check_eq W H l).bind ?_
  by_cases hc : chk W H l = 0
  case neg => simp only [if_neg hc]; exact .now _
  simp only [if_pos hc, rvalid_eq, Option.bind_some]
  by_cases hv : validR x y w h = true
  case neg => simp only [if_neg hv]; exact .now _
  simp only [if_pos hv]
  by_cases c1 : w > 256
  · simp only [if_pos c1, c1, true_or, if_true]; exact bad
  by_cases c2 : h > 256
  · simp only [if_neg c1, decide_eq_true c2, c1, c2, false_or, if_true]; exact bad
  simp only [if_neg c1, decide_eq_false c2, c1, c2, false_or, if_false]
  refine .step (fun k => by rw [raster_Crop.j0, if_neg (by simp), rempty_eq x y w h hv, Option.bind_some]) ?_
  by_cases c3 : w = 0 ∨ h = 0
  · simp only [decide_eq_true c3, if_pos c3, if_true]; exact .now _
  simp only [decide_eq_false c3, if_neg c3, Bool.false_eq_true, if_false]
  obtain ⟨hs, hl, _⟩ := chk_ok hc
  simp only [validR, decide_eq_true_eq] at hv
  obtain ⟨w', rfl⟩ := Int.eq_ofNat_of_zero_le hv.2.2.1
  obtain ⟨h', rfl⟩ := Int.eq_ofNat_of_zero_le hv.2.2.2.2.2.2.1
  exact (crop_fill hs hl (by omega) (by omega) ⟨hv.1, hv.2.1⟩ ⟨hv.2.2.2.2.1, hv.2.2.2.2.2.1⟩).bind (.now _)
theorem fill_small {w h : Int} (hw : w ≤ 256) (hh : h ≤ 256) (g : Int → Int → S37) : ((fillL w.toNat (h.toNat * w.toNat) g).length : Int) ≤ 65536 := by
  rw [fillL_length]
  have := Nat.mul_le_mul (show h.toNat ≤ 256 by omega) (show w.toNat ≤ 256 by omega)
  omega
theorem cropR_small (W H : Int) (l : List S37) (x y w h : Int) : ((cropR W H l x y w h).2.2.1.length : Int) ≤ 65536 := by
  unfold cropR
  split
  · split
    · split
      · simp
      · split
        · simp
        · rename_i h1 h2
          show ((fillL w.toNat (h.toNat * w.toNat) fun u v => pick W H l (x + u) (y + v)).length : Int) ≤ 65536
          exact fill_small (w := w) (h := h) (by omega) (by omega) _
    · simp
  · simp
end Go.Proofs.Ytapdifpmijgkcaa.Pure
