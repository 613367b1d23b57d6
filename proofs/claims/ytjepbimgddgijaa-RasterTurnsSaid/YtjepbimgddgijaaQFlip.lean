/- Flip: what it returns, for every kind. No conditions. -/
import Derived.Test.YtjepbimgddgijaaPFlip
import Derived.Test.YtjepbimgddgijaaG8
namespace Go.Proofs.Ytjepbimgddgijaa.Pure
open Go.RowKit Go.Proofs.YtjepbimgddgijaaW.PrintWords Go.Proofs.YtjepbimgddgijaaW.PrintLast Go.Proofs.YtjepbimgddgijaaW.PrintMore Go.Proofs.Ytjepbimgddgijaa.G
set_option linter.unusedVariables false
set_option linter.unusedSimpArgs false

def flipR (W H : Int) (l : List S26) (kind : Int) : Res :=
  if chk W H l = 0 then (if kind = 1 then (W, H, fillL W.toNat (H.toNat * W.toNat) (flipG 1 W.toNat H.toNat l), 0) else if kind = 2 then (W, H, fillL W.toNat (H.toNat * W.toNat) (flipG 2 W.toNat H.toNat l), 0) else if kind = 3 then (H, W, fillL H.toNat (W.toNat * H.toNat) (flipG 3 W.toNat H.toNat l), 0) else if kind = 4 then (W, H, fillL W.toNat (H.toNat * W.toNat) (flipG 4 W.toNat H.toNat l), 0) else (0, 0, [], 8)) else (0, 0, [], chk W H l)
theorem flip_eq (W H : Int) (l : List S26) (kind : Int) : Ev (fun k => raster_Flip.f k W H l kind) (flipR W H l kind) := by
  unfold raster_Flip.f flipR
  refine (check_eq W H l).bind ?_
  by_cases hc : chk W H l = 0
  case neg => simp only [if_neg hc]; exact .now _
  simp only [if_pos hc]
  obtain ⟨hs, hl, _⟩ := chk_ok hc
  obtain ⟨W', H', rfl, rfl, hW, hH, _⟩ := nats hs
  by_cases k1 : kind = 1
  · simp only [if_pos k1]; exact (flip_fill1 hs hl hW hH).bind (.now _)
  simp only [if_neg k1]
  by_cases k2 : kind = 2
  · simp only [if_pos k2]; exact (flip_fill2 hs hl hW hH).bind (.now _)
  simp only [if_neg k2]
  by_cases k3 : kind = 3
  · simp only [if_pos k3]; exact (flip_fill3 hs hl hW hH).bind (.now _)
  simp only [if_neg k3]
  by_cases k4 : kind = 4
  · simp only [if_pos k4]; exact (flip_fill4 hs hl hW hH).bind (.now _)
  simp only [if_neg k4]
  exact .now _
end Go.Proofs.Ytjepbimgddgijaa.Pure
