/- Put in plain words. -/
import Derived.Test.YtnfbabmceddciaaPCut
import Derived.Test.YtnfbabmceddciaaG30
import Derived.Test.YtnfbabmceddciaaG31
namespace Go.Proofs.Ytnfbabmceddciaa.Pure
open Go.RowKit Go.Proofs.YtnfbabmceddciaaW.PrintWords Go.Proofs.YtnfbabmceddciaaW.PrintLast Go.Proofs.YtnfbabmceddciaaW.PrintMore Go.Proofs.Ytnfbabmceddciaa.G
set_option linter.unusedVariables false
set_option linter.unusedSimpArgs false

/-- A number limited to a coordinate. -/
def co (x : Int) : Int := mn (mx x (-1048576)) 1048576
theorem co_b (x : Int) : -1048576 ≤ co x ∧ co x ≤ 1048576 := by unfold co mn mx; split <;> split <;> omega
/-- A pixel of an image with a part put on it. -/
def over (W H : Int) (l : List S48) (w h : Int) (p : List S48) (dx dy x y : Int) : S48 := if Ins w h (x - dx) (y - dy) then rd_T48 p ((y - dy) * w + (x - dx)) else pick W H l x y
def putR (W H : Int) (l : List S48) (w h : Int) (p : List S48) (ax ay : Int) : Res :=
  if chk W H l = 0 then (if chk w h p = 0 then (W, H, fillL W.toNat (H.toNat * W.toNat) (over W H l w h p (co ax) (co ay)), 0) else (0, 0, [], chk w h p)) else (0, 0, [], chk W H l)
section
variable {W H : Nat} {l : List S48} (hs : sidesOk W H = true) (hl : (l.length : Int) = W * H) {w h : Int} {p : List S48} (hs' : sidesOk w h = true) (hp' : (p.length : Int) = w * h) {dx dy : Int} (hdx : -1048576 ≤ dx ∧ dx ≤ 1048576) (hdy : -1048576 ≤ dy ∧ dy ≤ 1048576)
include hs hl hs' hp' hdx hdy
theorem put1 (x y : Int) (hx : 0 ≤ x ∧ x ≤ 256) (hy : 0 ≤ y ∧ y ≤ 256) : raster_Put_1.f x y dx dy w h p W H l = some ((over W H l w h p dx dy x y).f0, (over W H l w h p dx dy x y).f1, (over W H l w h p dx dy x y).f2, (over W H l w h p dx dy x y).f3) := by
  have ha := area hs'
  have e1 : wrap64 (x - dx) = x - dx := w64 (by omega) (by omega)
  have e2 : wrap64 (y - dy) = y - dy := w64 (by omega) (by omega)
  unfold raster_Put_1.f
  rw [e1, e2, get_eq hs hl, Option.bind_some]
  have no : ¬ Ins w h (x - dx) (y - dy) → over W H l w h p dx dy x y = pick W H l x y := fun h => if_neg h
  by_cases c1 : x - dx ≥ 0
  case neg => rw [if_neg c1, no (fun h => c1 h.1)]
  by_cases c2 : x - dx < w
  case neg => rw [if_pos c1, if_neg c2, no (fun h => c2 h.2.1)]
  by_cases c3 : y - dy ≥ 0
  case neg => rw [if_pos c1, if_pos c2, if_neg c3, no (fun h => c3 h.2.2.1)]
  by_cases c4 : y - dy < h
  case neg => rw [if_pos c1, if_pos c2, if_pos c3, if_neg c4, no (fun h => c4 h.2.2.2)]
  have hi : Ins w h (x - dx) (y - dy) := ⟨c1, c2, c3, c4⟩
  have hq := place_in hi
  have hm := Int.mul_nonneg c3 (show 0 ≤ w by omega)
  rw [if_pos c1, if_pos c2, if_pos c3, if_pos c4, w64 (show -9223372036854775808 ≤ (y - dy) * w by omega) (by omega), w64 (show -9223372036854775808 ≤ (y - dy) * w + (x - dx) by omega) (by omega), if_pos hq.1, if_pos (by omega), over, if_pos hi]
theorem put_fill : Ev (fun k => raster_fill__raster_Put_1.f k (W : Int) (H : Int) dx dy w h p (W : Int) (H : Int) l) ((W : Int), (H : Int), fillL W (H * W) (over W H l w h p dx dy)) := by
  have hsd := (sidesOk_iff _ _).1 hs
  have hw : W ≤ 256 := by omega
  have hh : H ≤ 256 := by omega
  have ha := Nat.mul_le_mul hw hh
  have e : wrap64 ((W : Int) * (H : Int)) = ((W * H : Nat) : Int) := by rw [← Int.natCast_mul]; exact w64 (by omega) (by omega)
  unfold raster_fill__raster_Put_1.f
  simp only [e, if_pos (show 0 ≤ ((W * H : Nat) : Int) by omega), if_pos (show (((W * H : Nat) : Int)).toNat ≤ 8796093022208 by omega)]
  refine rows_abs W H (over W H l w h p dx dy) hw hh (fun k y' acc => raster_fill__raster_Put_1.l0 k (W : Int) (H : Int) y' dx dy w h p (W : Int) (H : Int) l (W : Int) (H : Int) acc) (fun k y' x' acc => raster_fill__raster_Put_1.l1 k (W : Int) y' (H : Int) y' (W : Int) x' dx dy w h p (W : Int) (H : Int) l (W : Int) (H : Int) acc) (fun acc => ((W : Int), (H : Int), acc)) ?_ ?_ ?_ ?_
  · intro v acc r hv hE
    exact .step (fun k => by rw [raster_fill__raster_Put_1.l0, if_pos (by omega)]) hE
  · intro v u acc r hv hu hacc hE
    exact .step (fun k => by rw [raster_fill__raster_Put_1.l1, if_pos (by omega), put1 hs hl hs' hp' hdx hdy (u : Int) (v : Int) (by omega) (by omega), Option.bind_some, if_pos (by omega), w64 (show -9223372036854775808 ≤ (u : Int) + 1 by omega) (by omega)]) hE
  · intro v acc r hv hE
    exact .step (fun k => by rw [raster_fill__raster_Put_1.l1, if_neg (by omega), w64 (by omega) (by omega)]) hE
  · intro acc
    exact .step (fun k => by rw [raster_fill__raster_Put_1.l0, if_neg (by omega)]) (.now _)
end
theorem put_eq (W H : Int) (l : List S48) (w h : Int) (p : List S48) (ax ay : Int) : Ev (fun k => raster_Put.f k W H l w h p ax ay) (putR W H l w h p ax ay) := by
  unfold raster_Put.f putR
  refine (check_eq W H l).bind ?_
  by_cases hc : chk W H l = 0
  case neg => simp only [if_neg hc]; exact .now _
  simp only [if_pos hc]
  refine (check_eq w h p).bind ?_
  by_cases hc' : chk w h p = 0
  case neg => simp only [if_neg hc']; exact .now _
  simp only [if_pos hc']
  obtain ⟨hs, hl, _⟩ := chk_ok hc
  obtain ⟨hs', hl', _⟩ := chk_ok hc'
  obtain ⟨W', H', rfl, rfl, _, _, _⟩ := nats hs
  exact (put_fill hs hl hs' hl' (co_b ax) (co_b ay)).bind (.now _)
theorem putR_small (W H : Int) (l : List S48) (w h : Int) (p : List S48) (ax ay : Int) : ((putR W H l w h p ax ay).2.2.1.length : Int) ≤ 65536 := by
  unfold putR
  split
  · rename_i hc
    split
    · have hsd := (sidesOk_iff _ _).1 (chk_ok hc).1
      have := Nat.mul_le_mul (show H.toNat ≤ 256 by omega) (show W.toNat ≤ 256 by omega)
      show ((fillL W.toNat (H.toNat * W.toNat) (over W H l w h p (co ax) (co ay))).length : Int) ≤ 65536
      rw [fillL_length]
      omega
    · simp
  · simp
end Go.Proofs.Ytnfbabmceddciaa.Pure
