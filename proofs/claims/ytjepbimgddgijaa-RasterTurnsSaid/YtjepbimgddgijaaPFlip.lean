/- Flip: the program and the specification compute the same image. No conditions. -/
import Derived.Test.YtjepbimgddgijaaPAll
import Derived.Test.YtjepbimgddgijaaG6
import Derived.Test.YtjepbimgddgijaaG7
import Derived.Test.YtjepbimgddgijaaG8
namespace Go.Proofs.Ytjepbimgddgijaa.Pure
open Go.RowKit Go.Proofs.YtjepbimgddgijaaW.PrintWords Go.Proofs.YtjepbimgddgijaaW.PrintLast Go.Proofs.YtjepbimgddgijaaW.PrintMore Go.Proofs.Ytjepbimgddgijaa.G
set_option linter.unusedVariables false
set_option linter.unusedSimpArgs false

/-- A pixel of a mirrored image. -/
def flipG (kind : Nat) (W H : Nat) (l : List S26) (x y : Int) : S26 := match kind with
  | 1 => pick W H l ((W : Int) - 1 - x) y
  | 2 => pick W H l x ((H : Int) - 1 - y)
  | 3 => pick W H l y x
  | _ => pick W H l ((W : Int) - 1 - x) ((H : Int) - 1 - y)
section
variable {W H : Nat} {l : List S26} (hs : sidesOk W H = true) (hl : (l.length : Int) = W * H) (hW : W ≤ 256) (hH : H ≤ 256)
include hs hl hW hH

theorem flip_fill1 : Ev (fun k => raster_fill__raster_Flip_1.f k (W : Int) (H : Int) (W : Int) (H : Int) l) ((W : Int), (H : Int), fillL W (H * W) (flipG 1 W H l)) := by
  have ha := Nat.mul_le_mul hW hH
  have hc : H * W = W * H := by exact Nat.mul_comm _ _
  have e : wrap64 ((W : Int) * (H : Int)) = ((W * H : Nat) : Int) := by rw [← Int.natCast_mul]; exact w64 (by omega) (by have := Nat.mul_comm H W; omega)
  unfold raster_fill__raster_Flip_1.f
  simp only [e, if_pos (show 0 ≤ ((W * H : Nat) : Int) by omega), if_pos (show (((W * H : Nat) : Int)).toNat ≤ 8796093022208 by have := Nat.mul_comm H W; omega)]
  refine rows_abs W H (flipG 1 W H l) (by omega) (by omega) (fun k y' acc => raster_fill__raster_Flip_1.l0 k (W : Int) (H : Int) y' (W : Int) (H : Int) l (W : Int) (H : Int) acc) (fun k y' x' acc => raster_fill__raster_Flip_1.l1 k (W : Int) y' (H : Int) y' (W : Int) x' (W : Int) (H : Int) l (W : Int) (H : Int) acc) (fun acc => ((W : Int), (H : Int), acc)) ?_ ?_ ?_ ?_
  · intro v acc r hv hE
    exact .step (fun k => by rw [raster_fill__raster_Flip_1.l0, if_pos (by omega)]) hE
  · intro v u acc r hv hu hacc hE
    have e1 : raster_Flip_1.f (u : Int) (v : Int) (W : Int) (H : Int) l = some ((flipG 1 W H l u v).f0, (flipG 1 W H l u v).f1, (flipG 1 W H l u v).f2, (flipG 1 W H l u v).f3) := by
      unfold raster_Flip_1.f
      rw [w64 (show -9223372036854775808 ≤ (W : Int) - 1 by omega) (by omega), w64 (show -9223372036854775808 ≤ (W : Int) - 1 - (u : Int) by omega) (by omega), get_eq hs hl]
      rfl
    exact .step (fun k => by rw [raster_fill__raster_Flip_1.l1, if_pos (by omega), e1, Option.bind_some, if_pos (by omega), w64 (by omega) (by omega)]) hE
  · intro v acc r hv hE
    exact .step (fun k => by rw [raster_fill__raster_Flip_1.l1, if_neg (by omega), w64 (by omega) (by omega)]) hE
  · intro acc
    exact .step (fun k => by rw [raster_fill__raster_Flip_1.l0, if_neg (by omega)]) (.now _)

theorem flip_fill2 : Ev (fun k => raster_fill__raster_Flip_2.f k (W : Int) (H : Int) (W : Int) (H : Int) l) ((W : Int), (H : Int), fillL W (H * W) (flipG 2 W H l)) := by
  have ha := Nat.mul_le_mul hW hH
  have hc : H * W = W * H := by exact Nat.mul_comm _ _
  have e : wrap64 ((W : Int) * (H : Int)) = ((W * H : Nat) : Int) := by rw [← Int.natCast_mul]; exact w64 (by omega) (by have := Nat.mul_comm H W; omega)
  unfold raster_fill__raster_Flip_2.f
  simp only [e, if_pos (show 0 ≤ ((W * H : Nat) : Int) by omega), if_pos (show (((W * H : Nat) : Int)).toNat ≤ 8796093022208 by have := Nat.mul_comm H W; omega)]
  refine rows_abs W H (flipG 2 W H l) (by omega) (by omega) (fun k y' acc => raster_fill__raster_Flip_2.l0 k (W : Int) (H : Int) y' (W : Int) (H : Int) l (W : Int) (H : Int) acc) (fun k y' x' acc => raster_fill__raster_Flip_2.l1 k (W : Int) y' (H : Int) y' (W : Int) x' (W : Int) (H : Int) l (W : Int) (H : Int) acc) (fun acc => ((W : Int), (H : Int), acc)) ?_ ?_ ?_ ?_
  · intro v acc r hv hE
    exact .step (fun k => by rw [raster_fill__raster_Flip_2.l0, if_pos (by omega)]) hE
  · intro v u acc r hv hu hacc hE
    have e1 : raster_Flip_2.f (u : Int) (v : Int) (W : Int) (H : Int) l = some ((flipG 2 W H l u v).f0, (flipG 2 W H l u v).f1, (flipG 2 W H l u v).f2, (flipG 2 W H l u v).f3) := by
      unfold raster_Flip_2.f
      rw [w64 (show -9223372036854775808 ≤ (H : Int) - 1 by omega) (by omega), w64 (show -9223372036854775808 ≤ (H : Int) - 1 - (v : Int) by omega) (by omega), get_eq hs hl]
      rfl
    exact .step (fun k => by rw [raster_fill__raster_Flip_2.l1, if_pos (by omega), e1, Option.bind_some, if_pos (by omega), w64 (by omega) (by omega)]) hE
  · intro v acc r hv hE
    exact .step (fun k => by rw [raster_fill__raster_Flip_2.l1, if_neg (by omega), w64 (by omega) (by omega)]) hE
  · intro acc
    exact .step (fun k => by rw [raster_fill__raster_Flip_2.l0, if_neg (by omega)]) (.now _)

theorem flip_fill3 : Ev (fun k => raster_fill__raster_Flip_3.f k (H : Int) (W : Int) (W : Int) (H : Int) l) ((H : Int), (W : Int), fillL H (W * H) (flipG 3 W H l)) := by
  have ha := Nat.mul_le_mul hW hH
  have hc : W * H = W * H := by rfl
  have e : wrap64 ((H : Int) * (W : Int)) = ((H * W : Nat) : Int) := by rw [← Int.natCast_mul]; exact w64 (by omega) (by have := Nat.mul_comm H W; omega)
  unfold raster_fill__raster_Flip_3.f
  simp only [e, if_pos (show 0 ≤ ((H * W : Nat) : Int) by omega), if_pos (show (((H * W : Nat) : Int)).toNat ≤ 8796093022208 by have := Nat.mul_comm H W; omega)]
  refine rows_abs H W (flipG 3 W H l) (by omega) (by omega) (fun k y' acc => raster_fill__raster_Flip_3.l0 k (H : Int) (W : Int) y' (W : Int) (H : Int) l (H : Int) (W : Int) acc) (fun k y' x' acc => raster_fill__raster_Flip_3.l1 k (H : Int) y' (W : Int) y' (H : Int) x' (W : Int) (H : Int) l (H : Int) (W : Int) acc) (fun acc => ((H : Int), (W : Int), acc)) ?_ ?_ ?_ ?_
  · intro v acc r hv hE
    exact .step (fun k => by rw [raster_fill__raster_Flip_3.l0, if_pos (by omega)]) hE
  · intro v u acc r hv hu hacc hE
    have e1 : raster_Flip_3.f (u : Int) (v : Int) (W : Int) (H : Int) l = some ((flipG 3 W H l u v).f0, (flipG 3 W H l u v).f1, (flipG 3 W H l u v).f2, (flipG 3 W H l u v).f3) := by
      unfold raster_Flip_3.f
      rw [get_eq hs hl]
      rfl
    exact .step (fun k => by rw [raster_fill__raster_Flip_3.l1, if_pos (by omega), e1, Option.bind_some, if_pos (by omega), w64 (by omega) (by omega)]) hE
  · intro v acc r hv hE
    exact .step (fun k => by rw [raster_fill__raster_Flip_3.l1, if_neg (by omega), w64 (by omega) (by omega)]) hE
  · intro acc
    exact .step (fun k => by rw [raster_fill__raster_Flip_3.l0, if_neg (by omega)]) (.now _)

theorem flip_fill4 : Ev (fun k => raster_fill__raster_Flip_4.f k (W : Int) (H : Int) (W : Int) (H : Int) l) ((W : Int), (H : Int), fillL W (H * W) (flipG 4 W H l)) := by
  have ha := Nat.mul_le_mul hW hH
  have hc : H * W = W * H := by exact Nat.mul_comm _ _
  have e : wrap64 ((W : Int) * (H : Int)) = ((W * H : Nat) : Int) := by rw [← Int.natCast_mul]; exact w64 (by omega) (by have := Nat.mul_comm H W; omega)
  unfold raster_fill__raster_Flip_4.f
  simp only [e, if_pos (show 0 ≤ ((W * H : Nat) : Int) by omega), if_pos (show (((W * H : Nat) : Int)).toNat ≤ 8796093022208 by have := Nat.mul_comm H W; omega)]
  refine rows_abs W H (flipG 4 W H l) (by omega) (by omega) (fun k y' acc => raster_fill__raster_Flip_4.l0 k (W : Int) (H : Int) y' (W : Int) (H : Int) l (W : Int) (H : Int) acc) (fun k y' x' acc => raster_fill__raster_Flip_4.l1 k (W : Int) y' (H : Int) y' (W : Int) x' (W : Int) (H : Int) l (W : Int) (H : Int) acc) (fun acc => ((W : Int), (H : Int), acc)) ?_ ?_ ?_ ?_
  · intro v acc r hv hE
    exact .step (fun k => by rw [raster_fill__raster_Flip_4.l0, if_pos (by omega)]) hE
  · intro v u acc r hv hu hacc hE
    have e1 : raster_Flip_4.f (u : Int) (v : Int) (W : Int) (H : Int) l = some ((flipG 4 W H l u v).f0, (flipG 4 W H l u v).f1, (flipG 4 W H l u v).f2, (flipG 4 W H l u v).f3) := by
      unfold raster_Flip_4.f
      rw [w64 (show -9223372036854775808 ≤ (W : Int) - 1 by omega) (by omega), w64 (show -9223372036854775808 ≤ (W : Int) - 1 - (u : Int) by omega) (by omega), w64 (show -9223372036854775808 ≤ (H : Int) - 1 by omega) (by omega), w64 (show -9223372036854775808 ≤ (H : Int) - 1 - (v : Int) by omega) (by omega), get_eq hs hl]
      rfl
    exact .step (fun k => by rw [raster_fill__raster_Flip_4.l1, if_pos (by omega), e1, Option.bind_some, if_pos (by omega), w64 (by omega) (by omega)]) hE
  · intro v acc r hv hE
    exact .step (fun k => by rw [raster_fill__raster_Flip_4.l1, if_neg (by omega), w64 (by omega) (by omega)]) hE
  · intro acc
    exact .step (fun k => by rw [raster_fill__raster_Flip_4.l0, if_neg (by omega)]) (.now _)
end
end Go.Proofs.Ytjepbimgddgijaa.Pure
