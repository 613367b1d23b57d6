/- New in plain words. -/
import Derived.Test.YtnfbabmceddciaaPIm
import Derived.Test.YtnfbabmceddciaaG30
namespace Go.Proofs.Ytnfbabmceddciaa.Pure
open Go.RowKit Go.Proofs.YtnfbabmceddciaaW.PrintWords Go.Proofs.YtnfbabmceddciaaW.PrintLast Go.Proofs.YtnfbabmceddciaaW.PrintMore Go.Proofs.Ytnfbabmceddciaa.G
set_option linter.unusedVariables false
set_option linter.unusedSimpArgs false

section
variable (w h : Nat) (hw : w ≤ 256) (hh : h ≤ 256) (p : S48)
include hw hh
theorem new_fill : Ev (fun k => raster_fill__raster_New_1.f k (w : Int) (h : Int) p.f0 p.f1 p.f2 p.f3) ((w : Int), (h : Int), fillL w (h * w) (fun _ _ => p)) := by
  have ha := Nat.mul_le_mul hw hh
  have e : wrap64 ((w : Int) * (h : Int)) = ((w * h : Nat) : Int) := by rw [← Int.natCast_mul]; exact w64 (by omega) (by omega)
  unfold raster_fill__raster_New_1.f
  simp only [e, if_pos (show 0 ≤ ((w * h : Nat) : Int) by omega), if_pos (show (((w * h : Nat) : Int)).toNat ≤ 8796093022208 by omega)]
  refine rows_abs w h (fun _ _ => p) hw hh (fun k y acc => raster_fill__raster_New_1.l0 k (w : Int) (h : Int) y p.f0 p.f1 p.f2 p.f3 (w : Int) (h : Int) acc) (fun k y x acc => raster_fill__raster_New_1.l1 k (w : Int) y (h : Int) y (w : Int) x p.f0 p.f1 p.f2 p.f3 (w : Int) (h : Int) acc) (fun acc => ((w : Int), (h : Int), acc)) ?_ ?_ ?_ ?_
  · intro y acc r hy hE
    exact .step (fun k => by rw [raster_fill__raster_New_1.l0, if_pos (by omega)]) hE
  · intro y x acc r hy hx hacc hE
    exact .step (fun k => by rw [raster_fill__raster_New_1.l1, if_pos (by omega), raster_New_1.f, Option.bind_some, if_pos (by omega), w64 (by omega) (by omega)]) hE
  · intro y acc r hy hE
    exact .step (fun k => by rw [raster_fill__raster_New_1.l1, if_neg (by omega), w64 (by omega) (by omega)]) hE
  · intro acc
    exact .step (fun k => by rw [raster_fill__raster_New_1.l0, if_neg (by omega)]) (.now _)
end
theorem new_eq {w h : Nat} (hs : sidesOk (w : Int) (h : Int) = true) (hw : w ≤ 256) (hh : h ≤ 256) (p : S48) : Ev (fun k => raster_New.f k (w : Int) (h : Int) p.f0 p.f1 p.f2 p.f3) (if pxOkS p = true then ((w : Int), (h : Int), fillL w (h * w) (fun _ _ => p), 0) else (0, 0, [], 2)) := by
  unfold raster_New.f
  simp only [sides_eq, valid_eq, Option.bind_some, if_pos hs, if_true]
  by_cases hp : pxOkS p = true
  case neg =>
    have hp' : ¬ pxOk p.f0 p.f1 p.f2 p.f3 = true := hp
    simp only [if_neg hp, if_neg hp']
    exact .now _
  have hp' : pxOk p.f0 p.f1 p.f2 p.f3 = true := hp
  simp only [if_pos hp, if_pos hp']
  exact (new_fill w h hw hh p).bind (.now _)
end Go.Proofs.Ytnfbabmceddciaa.Pure
