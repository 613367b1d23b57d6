/- Flip of the specification: the same images. No conditions. -/
import Derived.Test.YtjepbimgddgijaaPFlip
import Derived.Test.YtjepbimgddgijaaG17
namespace Go.Proofs.Ytjepbimgddgijaa.Pure
open Go.RowKit Go.Proofs.YtjepbimgddgijaaW.PrintWords Go.Proofs.YtjepbimgddgijaaW.PrintLast Go.Proofs.YtjepbimgddgijaaW.PrintMore Go.Proofs.Ytjepbimgddgijaa.G
set_option linter.unusedVariables false
set_option linter.unusedSimpArgs false
section
variable {W H : Nat} {l : List S26} (hs : sidesOk W H = true) (hl : (l.length : Int) = W * H) (hW : W ≤ 256) (hH : H ≤ 256)
include hs hl hW hH

theorem flip_loop1 : Ev (fun k => imageeditorref11_Flip.l0 k 1 0 (W : Int) (H : Int) l (W : Int) (H : Int) []) ((W : Int), (H : Int), fillL W (H * W) (flipG 1 W H l), 0) := by
  refine rows_abs W H (flipG 1 W H l) (by omega) (by omega) (fun k y' acc => imageeditorref11_Flip.l0 k 1 y' (W : Int) (H : Int) l (W : Int) (H : Int) acc) (fun k y' x' acc => imageeditorref11_Flip.l1 k 1 y' x' (W : Int) (H : Int) l (W : Int) (H : Int) acc) (fun acc => ((W : Int), (H : Int), acc, 0)) ?_ ?_ ?_ ?_
  · intro v acc r hv hE
    exact .step (fun k => by rw [imageeditorref11_Flip.l0, if_pos (by omega)]) hE
  · intro v u acc r hv hu hacc hE
    refine .step (fun k => by rw [imageeditorref11_Flip.l1, if_pos (by omega), if_pos rfl, w64 (show -9223372036854775808 ≤ (W : Int) - 1 by omega) (by omega), w64 (show -9223372036854775808 ≤ (W : Int) - 1 - (u : Int) by omega) (by omega), pick_eq hs hl, Option.bind_some]) ?_
    refine .step (fun k => by rw [imageeditorref11_Flip.j4, if_neg (show ¬ (1 : Int) = 2 by omega)]) ?_
    refine .step (fun k => by rw [imageeditorref11_Flip.j5, if_neg (show ¬ (1 : Int) = 3 by omega), if_neg (show ¬ (1 : Int) = 4 by omega), if_pos (show acc.length < 4398046511104 by omega), w64 (show -9223372036854775808 ≤ (u : Int) + 1 by omega) (by omega)]) ?_
    exact hE
  · intro v acc r hv hE
    exact .step (fun k => by rw [imageeditorref11_Flip.l1, if_neg (by omega), w64 (by omega) (by omega)]) hE
  · intro acc
    exact .step (fun k => by rw [imageeditorref11_Flip.l0, if_neg (by omega)]) (.now _)

theorem flip_loop2 : Ev (fun k => imageeditorref11_Flip.l0 k 2 0 (W : Int) (H : Int) l (W : Int) (H : Int) []) ((W : Int), (H : Int), fillL W (H * W) (flipG 2 W H l), 0) := by
  refine rows_abs W H (flipG 2 W H l) (by omega) (by omega) (fun k y' acc => imageeditorref11_Flip.l0 k 2 y' (W : Int) (H : Int) l (W : Int) (H : Int) acc) (fun k y' x' acc => imageeditorref11_Flip.l1 k 2 y' x' (W : Int) (H : Int) l (W : Int) (H : Int) acc) (fun acc => ((W : Int), (H : Int), acc, 0)) ?_ ?_ ?_ ?_
  · intro v acc r hv hE
    exact .step (fun k => by rw [imageeditorref11_Flip.l0, if_pos (by omega)]) hE
  · intro v u acc r hv hu hacc hE
    refine .step (fun k => by rw [imageeditorref11_Flip.l1, if_pos (by omega), if_neg (show ¬ (2 : Int) = 1 by omega)]) ?_
    refine .step (fun k => by rw [imageeditorref11_Flip.j4, if_pos rfl, w64 (show -9223372036854775808 ≤ (H : Int) - 1 by omega) (by omega), w64 (show -9223372036854775808 ≤ (H : Int) - 1 - (v : Int) by omega) (by omega), pick_eq hs hl, Option.bind_some]) ?_
    refine .step (fun k => by rw [imageeditorref11_Flip.j5, if_neg (show ¬ (2 : Int) = 3 by omega), if_neg (show ¬ (2 : Int) = 4 by omega), if_pos (show acc.length < 4398046511104 by omega), w64 (show -9223372036854775808 ≤ (u : Int) + 1 by omega) (by omega)]) ?_
    exact hE
  · intro v acc r hv hE
    exact .step (fun k => by rw [imageeditorref11_Flip.l1, if_neg (by omega), w64 (by omega) (by omega)]) hE
  · intro acc
    exact .step (fun k => by rw [imageeditorref11_Flip.l0, if_neg (by omega)]) (.now _)

theorem flip_loop3 : Ev (fun k => imageeditorref11_Flip.l0 k 3 0 (W : Int) (H : Int) l (H : Int) (W : Int) []) ((H : Int), (W : Int), fillL H (W * H) (flipG 3 W H l), 0) := by
  refine rows_abs H W (flipG 3 W H l) (by omega) (by omega) (fun k y' acc => imageeditorref11_Flip.l0 k 3 y' (W : Int) (H : Int) l (H : Int) (W : Int) acc) (fun k y' x' acc => imageeditorref11_Flip.l1 k 3 y' x' (W : Int) (H : Int) l (H : Int) (W : Int) acc) (fun acc => ((H : Int), (W : Int), acc, 0)) ?_ ?_ ?_ ?_
  · intro v acc r hv hE
    exact .step (fun k => by rw [imageeditorref11_Flip.l0, if_pos (by omega)]) hE
  · intro v u acc r hv hu hacc hE
    refine .step (fun k => by rw [imageeditorref11_Flip.l1, if_pos (by omega), if_neg (show ¬ (3 : Int) = 1 by omega)]) ?_
    refine .step (fun k => by rw [imageeditorref11_Flip.j4, if_neg (show ¬ (3 : Int) = 2 by omega)]) ?_
    refine .step (fun k => by rw [imageeditorref11_Flip.j5, if_pos rfl, pick_eq hs hl, Option.bind_some, if_neg (show ¬ (3 : Int) = 4 by omega), if_pos (show acc.length < 4398046511104 by omega), w64 (show -9223372036854775808 ≤ (u : Int) + 1 by omega) (by omega)]) ?_
    exact hE
  · intro v acc r hv hE
    exact .step (fun k => by rw [imageeditorref11_Flip.l1, if_neg (by omega), w64 (by omega) (by omega)]) hE
  · intro acc
    exact .step (fun k => by rw [imageeditorref11_Flip.l0, if_neg (by omega)]) (.now _)

theorem flip_loop4 : Ev (fun k => imageeditorref11_Flip.l0 k 4 0 (W : Int) (H : Int) l (W : Int) (H : Int) []) ((W : Int), (H : Int), fillL W (H * W) (flipG 4 W H l), 0) := by
  refine rows_abs W H (flipG 4 W H l) (by omega) (by omega) (fun k y' acc => imageeditorref11_Flip.l0 k 4 y' (W : Int) (H : Int) l (W : Int) (H : Int) acc) (fun k y' x' acc => imageeditorref11_Flip.l1 k 4 y' x' (W : Int) (H : Int) l (W : Int) (H : Int) acc) (fun acc => ((W : Int), (H : Int), acc, 0)) ?_ ?_ ?_ ?_
  · intro v acc r hv hE
    exact .step (fun k => by rw [imageeditorref11_Flip.l0, if_pos (by omega)]) hE
  · intro v u acc r hv hu hacc hE
    refine .step (fun k => by rw [imageeditorref11_Flip.l1, if_pos (by omega), if_neg (show ¬ (4 : Int) = 1 by omega)]) ?_
    refine .step (fun k => by rw [imageeditorref11_Flip.j4, if_neg (show ¬ (4 : Int) = 2 by omega)]) ?_
    refine .step (fun k => by rw [imageeditorref11_Flip.j5, if_neg (show ¬ (4 : Int) = 3 by omega), if_pos rfl, w64 (show -9223372036854775808 ≤ (W : Int) - 1 by omega) (by omega), w64 (show -9223372036854775808 ≤ (W : Int) - 1 - (u : Int) by omega) (by omega), w64 (show -9223372036854775808 ≤ (H : Int) - 1 by omega) (by omega), w64 (show -9223372036854775808 ≤ (H : Int) - 1 - (v : Int) by omega) (by omega), pick_eq hs hl, Option.bind_some, if_pos (show acc.length < 4398046511104 by omega), w64 (show -9223372036854775808 ≤ (u : Int) + 1 by omega) (by omega)]) ?_
    exact hE
  · intro v acc r hv hE
    exact .step (fun k => by rw [imageeditorref11_Flip.l1, if_neg (by omega), w64 (by omega) (by omega)]) hE
  · intro acc
    exact .step (fun k => by rw [imageeditorref11_Flip.l0, if_neg (by omega)]) (.now _)
end
end Go.Proofs.Ytjepbimgddgijaa.Pure
