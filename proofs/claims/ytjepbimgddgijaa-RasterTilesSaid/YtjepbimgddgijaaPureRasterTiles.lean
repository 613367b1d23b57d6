/- RasterTiles in plain words: a valid image that is not empty, cut into its tiles, is restored by Join. For every image. -/
import Derived.Test.YtjepbimgddgijaaPTiles
import Derived.Test.YtjepbimgddgijaaG5
import Derived.Test.YtjepbimgddgijaaG23
namespace Go.Proofs.Ytjepbimgddgijaa.Pure
open Go.RowKit Go.Proofs.YtjepbimgddgijaaW.PrintWords Go.Proofs.YtjepbimgddgijaaW.PrintLast Go.Proofs.YtjepbimgddgijaaW.PrintMore Go.Proofs.Ytjepbimgddgijaa.G
set_option linter.unusedVariables false
set_option linter.unusedSimpArgs false

theorem tile_crop {W H : Nat} (hW : W ≤ 256) (hH : H ≤ 256) {l : List S26} (hc : chk (W : Int) (H : Int) l = 0) {a b : Nat} (ha : 16 * a < W) (hb : 16 * b < H) : cropR (W : Int) (H : Int) l ((16 * a : Nat) : Int) ((16 * b : Nat) : Int) (mn 16 (wrap64 ((W : Int) - ((16 * a : Nat) : Int)))) (mn 16 (wrap64 ((H : Int) - ((16 * b : Nat) : Int)))) = ((tileT W H l a b).f0, (tileT W H l a b).f1, (tileT W H l a b).f2, 0) := by
  rw [mn16 ha hW, mn16 hb hH]
  have h1 : 1 ≤ min 16 (W - 16 * a) ∧ min 16 (W - 16 * a) ≤ 16 := by omega
  have h2 : 1 ≤ min 16 (H - 16 * b) ∧ min 16 (H - 16 * b) ≤ 16 := by omega
  simp only [tileT]
  generalize min 16 (W - 16 * a) = tw at *
  generalize min 16 (H - 16 * b) = th at *
  have hv : validR ((16 * a : Nat) : Int) ((16 * b : Nat) : Int) (tw : Int) (th : Int) = true := by simp only [validR, decide_eq_true_eq]; omega
  rw [cropR, if_pos hc, if_pos hv, if_neg (by omega), if_neg (by omega)]
  rfl
theorem RasterTiles : ∀ (a0_0 : Int) (a0_1 : Int) (a0_2 : List S26), ((Lit.int .i64 a0_0).wf = true ∧ (Lit.int .i64 a0_1).wf = true ∧ (a0_2.length ≤ maxLen ∧ ∀ x ∈ a0_2, (Lit.int .i64 x.f0).wf = true ∧ (Lit.int .i64 x.f1).wf = true ∧ (Lit.int .i64 x.f2).wf = true ∧ (Lit.int .i64 x.f3).wf = true)) → ∃ k, imageeditorlaw11_RasterTiles.f k a0_0 a0_1 a0_2 = some true := by
  intro W H l _
  unfold imageeditorlaw11_RasterTiles.f
  refine Ev.rounds (awake_eq.bind ?_)
  simp only [if_true]
  refine (check_eq W H l).bind ?_
  have skip : Ev (fun k => imageeditorlaw11_RasterTiles.j0 k true W H l) true := by
    refine .step (fun k => by rw [imageeditorlaw11_RasterTiles.j0, if_pos rfl]) ?_
    exact awake_eq.bind (.now _)
  by_cases hc : chk W H l = 0
  case neg => simp only [if_neg hc]; exact skip
  simp only [if_pos hc]
  obtain ⟨hs, hl, _⟩ := chk_ok hc
  obtain ⟨W, H, rfl, rfl, hW, hH, hWH⟩ := nats hs
  have hl' : l.length = W * H := by rw [← Int.natCast_mul] at hl; omega
  simp only [full_of hW hH hl', Option.bind_some, if_true]
  by_cases hW0 : W = 0
  · rw [show ((W : Int) == 0) = true by simp [hW0]]
    exact skip
  rw [show ((W : Int) == 0) = false by simp [hW0]]
  clear skip
  have hW1 : 1 ≤ W := by omega
  have hH1 : 1 ≤ H := by omega
  refine .step (fun k => by rw [imageeditorlaw11_RasterTiles.j0, if_neg (by simp)]) ?_
  have hj := tiles_join hW1 hW hH1 hH hc
  have hcol : (W + 15) / 16 ≤ 16 := by omega
  have hrow : (H + 15) / 16 ≤ 16 := by omega
  have hmul := Nat.mul_le_mul hcol hrow
  have b1 : ∀ a, a < (W + 15) / 16 → 16 * a < W := fun a ha => by omega
  have b2 : ∀ b, b < (H + 15) / 16 → 16 * b < H := fun a ha => by omega
  have b3 : W ≤ 16 * ((W + 15) / 16) := by omega
  have b4 : H ≤ 16 * ((H + 15) / 16) := by omega
  have hlen : ∀ y x : Nat, y < (H + 15) / 16 → x < (W + 15) / 16 → y * ((W + 15) / 16) + x < 256 := fun y x hy hx => by
    have := idx_lt hx hy
    omega
  generalize (W + 15) / 16 = col at *
  generalize (H + 15) / 16 = rows at *
  have key := rows_sq (R := Bool) col rows (fun n => tl W H l col n) (fun k y s => imageeditorlaw11_RasterTiles.l0 k s (16 * y) (W : Int) (H : Int) l) (fun k y x s => imageeditorlaw11_RasterTiles.l1 k s (16 * y) (16 * x) (W : Int) (H : Int) l) true ?_ ?_ ?_ ?_
  · simp only [Int.mul_zero] at key
    exact key
  · intro y hy hE
    have := b2 y hy
    simp only [Int.mul_zero] at hE
    exact .step (fun k => by rw [imageeditorlaw11_RasterTiles.l0, if_pos (by omega)]) hE
  · intro y x hy hx hE
    have h1 := b1 x hx
    have h2 := b2 y hy
    have hn := hlen y x hy hx
    have m1 : (y * col + x) % col = x := by rw [Nat.add_comm, Nat.add_mul_mod_self_right, Nat.mod_eq_of_lt hx]
    have m2 : (y * col + x) / col = y := by rw [Nat.add_comm, Nat.add_mul_div_right _ _ (by omega), Nat.div_eq_of_lt hx, Nat.zero_add]
    have hs := tl_succ W H l col (y * col + x)
    rw [m1, m2] at hs
    have ex : (16 : Int) * (x : Int) = ((16 * x : Nat) : Int) := by omega
    have ey : (16 : Int) * (y : Int) = ((16 * y : Nat) : Int) := by omega
    have en : wrap64 (((16 * x : Nat) : Int) + 16) = 16 * ((x : Int) + 1) := by rw [w64 (by omega) (by omega)]; omega
    have hx' : ((16 * x : Nat) : Int) < (W : Int) := by omega
    have hcr := crop_eq (W : Int) (H : Int) l ((16 * x : Nat) : Int) ((16 * y : Nat) : Int) (mn 16 (wrap64 ((W : Int) - ((16 * x : Nat) : Int)))) (mn 16 (wrap64 ((H : Int) - ((16 * y : Nat) : Int))))
    rw [tile_crop hW hH hc h1 h2] at hcr
    simp only [ey, hs] at hE
    simp only [ex, ey]
    refine .step (fun k => by rw [imageeditorlaw11_RasterTiles.l1, if_pos hx', en]) ?_
    refine hcr.bind ?_
    simp only [if_true, if_pos (show (tl W H l col (y * col + x)).length < 3518437208883 by rw [tl_length]; omega)]
    exact hE
  · intro y hy hE
    have h2 := b2 y hy
    have en : wrap64 (16 * (y : Int) + 16) = 16 * ((y : Int) + 1) := by rw [w64 (by omega) (by omega)]; omega
    exact .step (fun k => by rw [imageeditorlaw11_RasterTiles.l1, if_neg (by omega), en]) hE
  · rw [show rows * col = col * rows from Nat.mul_comm _ _]
    refine .step (fun k => by rw [imageeditorlaw11_RasterTiles.l0, if_neg (by omega)]) ?_
    refine hj.bind ?_
    simp only [if_true]
    exact (same_eq l (chk_small hc) _ _).bind (.now _)
end Go.Proofs.Ytjepbimgddgijaa.Pure
