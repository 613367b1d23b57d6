/- Join of good tiles: the image of the tiles. No conditions. -/
import Derived.Test.YtjepbimgddgijaaPJoin
import Derived.Test.YtjepbimgddgijaaPPix
import Derived.Test.YtjepbimgddgijaaPCrop
namespace Go.Proofs.Ytjepbimgddgijaa.Pure
open Go.RowKit Go.Proofs.YtjepbimgddgijaaW.PrintWords Go.Proofs.YtjepbimgddgijaaW.PrintLast Go.Proofs.YtjepbimgddgijaaW.PrintMore Go.Proofs.Ytjepbimgddgijaa.G
set_option linter.unusedVariables false
set_option linter.unusedSimpArgs false

theorem rd24_get (l : List S24) (i : Nat) (h : i < l.length) : rd_T24 l (i : Int) = l[i] := by
  simp [rd_T24, List.getD_eq_getElem?_getD, List.getElem?_eq_getElem h]
theorem mn16 {W a : Nat} (h : 16 * a < W) (hW : W ≤ 256) : mn 16 (wrap64 ((W : Int) - ((16 * a : Nat) : Int))) = ((min 16 (W - 16 * a) : Nat) : Int) := by
  rw [w64 (by omega) (by omega)]
  unfold mn
  split <;> omega
theorem mul16 {a : Nat} (h : a ≤ 256) : wrap64 ((a : Int) * 16) = ((16 * a : Nat) : Int) := by rw [w64 (by omega) (by omega)]; omega
theorem tile_w {W a : Nat} (h : 16 * a < W) (hW : W ≤ 256) : ((min 16 (W - 16 * a) : Nat) : Int) = mn 16 (wrap64 ((W : Int) - wrap64 ((a : Int) * 16))) := by rw [mul16 (by omega), mn16 h hW]
/-- One tile of an image. -/
def tileT (W H : Nat) (l : List S26) (a b : Nat) : S24 := ⟨((min 16 (W - 16 * a) : Nat) : Int), ((min 16 (H - 16 * b) : Nat) : Int), fillL (min 16 (W - 16 * a)) (min 16 (H - 16 * b) * min 16 (W - 16 * a)) (fun u v => pick (W : Int) (H : Int) l (((16 * a : Nat) : Int) + u) (((16 * b : Nat) : Int) + v))⟩
/-- The first n tiles. -/
def tl (W H : Nat) (l : List S26) (col n : Nat) : List S24 := (List.range n).map fun j => tileT W H l (j % col) (j / col)
theorem tl_length (W H : Nat) (l : List S26) (col n : Nat) : (tl W H l col n).length = n := by simp [tl]
theorem tl_succ (W H : Nat) (l : List S26) (col n : Nat) : tl W H l col (n + 1) = tl W H l col n ++ [tileT W H l (n % col) (n / col)] := by simp [tl, List.range_succ]
theorem tl_get (W H : Nat) (l : List S26) (col : Nat) {n j : Nat} (h : j < n) : rd_T24 (tl W H l col n) (j : Int) = tileT W H l (j % col) (j / col) := by
  rw [rd24_get _ _ (by rw [tl_length]; exact h)]
  simp [tl]
theorem tile_chk {W H : Nat} {l : List S26} (hc : chk (W : Int) (H : Int) l = 0) {a b : Nat} (ha : 16 * a < W) (hb : 16 * b < H) : chk (tileT W H l a b).f0 (tileT W H l a b).f1 (tileT W H l a b).f2 = 0 := by
  have h1 : 1 ≤ min 16 (W - 16 * a) ∧ min 16 (W - 16 * a) ≤ 16 := by omega
  have h2 : 1 ≤ min 16 (H - 16 * b) ∧ min 16 (H - 16 * b) ≤ 16 := by omega
  simp only [tileT]
  generalize min 16 (W - 16 * a) = tw at *
  generalize min 16 (H - 16 * b) = th at *
  rw [chk, if_pos ⟨(sidesOk_iff _ _).2 ⟨by omega, by omega, by omega, by omega, by omega⟩, by rw [fillL_length, Int.natCast_mul, Int.mul_comm]⟩, if_pos (fill_ok fun a b => pick_ok hc _ _)]
theorem tile_pick {W H : Nat} {l : List S26} {x y : Nat} (hx : x < W) (hy : y < H) : pick (tileT W H l (x / 16) (y / 16)).f0 (tileT W H l (x / 16) (y / 16)).f1 (tileT W H l (x / 16) (y / 16)).f2 ((x % 16 : Nat) : Int) ((y % 16 : Nat) : Int) = pick (W : Int) (H : Int) l (x : Int) (y : Int) := by
  have h1 : x % 16 < min 16 (W - 16 * (x / 16)) := by omega
  have h2 : y % 16 < min 16 (H - 16 * (y / 16)) := by omega
  have e1 : ((16 * (x / 16) : Nat) : Int) + ((x % 16 : Nat) : Int) = (x : Int) := by omega
  have e2 : ((16 * (y / 16) : Nat) : Int) + ((y % 16 : Nat) : Int) = (y : Int) := by omega
  simp only [tileT]
  generalize 16 * (x / 16) = X at *
  generalize 16 * (y / 16) = Y at *
  generalize min 16 (W - X) = tw at *
  generalize min 16 (H - Y) = th at *
  generalize x % 16 = u at *
  generalize y % 16 = v at *
  have hI : Ins (tw : Int) (th : Int) (u : Int) (v : Int) := ⟨by omega, by omega, by omega, by omega⟩
  have hp := place_in hI
  have hcm : (tw : Int) * (th : Int) = ((th * tw : Nat) : Int) := by rw [Int.natCast_mul, Int.mul_comm]
  rw [pick_in hI, fillL_get _ hp.1 (by omega), place_mod hI.1 hI.2.1, place_div hI.1 hI.2.1, e1, e2]
theorem join_good {w h : Nat} (hw1 : 1 ≤ w) (hw : w ≤ 256) (hh1 : 1 ≤ h) (hh : h ≤ 256) {tiles : List S24} (hl : tiles.length = (w + 15) / 16 * ((h + 15) / 16))
    (hg : ∀ j : Nat, j < tiles.length → (rd_T24 tiles (j : Int)).f0 = mn 16 (wrap64 ((w : Int) - (wrap64 ((Int.tmod (j : Int) (((w + 15) / 16 : Nat) : Int)) * 16)))) ∧ (rd_T24 tiles (j : Int)).f1 = mn 16 (wrap64 ((h : Int) - (wrap64 ((wrap64 (Int.tdiv (j : Int) (((w + 15) / 16 : Nat) : Int))) * 16)))) ∧ chk (rd_T24 tiles (j : Int)).f0 (rd_T24 tiles (j : Int)).f1 (rd_T24 tiles (j : Int)).f2 = 0) :
    Ev (fun k => raster_Join.f k (w : Int) (h : Int) tiles) ((w : Int), (h : Int), fillL w (h * w) (joinG tiles ((w + 15) / 16)), 0) := by
  have ht : tiles.length ≤ 256 := by rw [hl]; exact Nat.mul_le_mul (show (w + 15) / 16 ≤ 16 by omega) (show (h + 15) / 16 ≤ 16 by omega)
  have loop : ∀ (n i : Nat), i + n = tiles.length → Ev (fun k => raster_Join.l0 k (w : Int) (h : Int) tiles (tiles.length : Int) (i : Int) tiles (((w + 15) / 16 : Nat) : Int)) ((w : Int), (h : Int), fillL w (h * w) (joinG tiles ((w + 15) / 16)), 0) := by
    intro n
    induction n with
    | zero =>
      intro i hi
      refine .step (fun k => by rw [raster_Join.l0, if_neg (by omega)]) ?_
      exact (join_fill hw1 hw hh1 hh hl (fun j hj => (hg j hj).2.2)).bind (.now _)
    | succ n ih =>
      intro i hi
      have hc0 : ¬ ((((w + 15) / 16 : Nat) : Int) = 0) := by omega
      have ih' := ih (i + 1) (by omega)
      have hi1 : (i : Int) < (tiles.length : Int) := by omega
      have hi0 : (0 : Int) ≤ (i : Int) := by omega
      have ew : wrap64 ((i : Int) + 1) = ((i + 1 : Nat) : Int) := by rw [w64 (by omega) (by omega)]; rfl
      obtain ⟨g1, g2, g3⟩ := hg i (by omega)
      refine .step (fun k => by rw [raster_Join.l0, if_pos hi1, if_pos hi0, if_pos hi1, if_neg hc0, if_pos g1, show ((rd_T24 tiles (i : Int)).f1 != mn 16 (wrap64 ((h : Int) - (wrap64 ((wrap64 (Int.tdiv (i : Int) (((w + 15) / 16 : Nat) : Int))) * 16))))) = false from bne_eq_false_iff_eq.2 g2]) ?_
      refine .step (fun k => by rw [raster_Join.j2, if_neg (by simp)]) ?_
      refine (check_eq _ _ _).bind ?_
      simp only [if_pos g3, ew]
      exact ih'
  unfold raster_Join.f
  simp only [if_neg (show ¬ (w : Int) < 1 by omega), if_neg (show ¬ (w : Int) > 256 by omega), if_neg (show ¬ (h : Int) < 1 by omega), decide_eq_false (show ¬ (h : Int) > 256 by omega)]
  refine .step (fun k => by rw [raster_Join.j0, if_neg (by simp), cols hw1 hw, cols hh1 hh, prod16 (show (w + 15) / 16 ≤ 16 by omega) (show (h + 15) / 16 ≤ 16 by omega), if_pos (by rw [hl])]) ?_
  exact loop tiles.length 0 (by omega)
theorem tiles_good {W H : Nat} (hW : W ≤ 256) (hH : H ≤ 256) {l : List S26} (hc : chk (W : Int) (H : Int) l = 0) {col rows j : Nat} (hcol : col = (W + 15) / 16) (hrows : rows = (H + 15) / 16) (hj : j < col * rows) :
    j % col < col ∧ j / col < rows ∧ 16 * (j % col) < W ∧ 16 * (j / col) < H := by
  have h0 : 0 < col := by
    rcases Nat.eq_zero_or_pos col with h | h
    · rw [h, Nat.zero_mul] at hj; omega
    · exact h
  have h1 : j % col < col := Nat.mod_lt _ h0
  have h2 : j / col < rows := Nat.div_lt_of_lt_mul hj
  clear hj
  generalize j % col = a at *
  generalize j / col = b at *
  omega
theorem tiles_join {W H : Nat} (hW1 : 1 ≤ W) (hW : W ≤ 256) (hH1 : 1 ≤ H) (hH : H ≤ 256) {l : List S26} (hc : chk (W : Int) (H : Int) l = 0) : Ev (fun k => raster_Join.f k (W : Int) (H : Int) (tl W H l ((W + 15) / 16) ((W + 15) / 16 * ((H + 15) / 16)))) ((W : Int), (H : Int), l, 0) := by
  obtain ⟨_, hL, _⟩ := chk_ok hc
  have key := join_good hW1 hW hH1 hH (tiles := tl W H l ((W + 15) / 16) ((W + 15) / 16 * ((H + 15) / 16))) (tl_length _ _ _ _ _) (fun j hj => by
    rw [tl_length] at hj
    obtain ⟨g1, g2, g3, g4⟩ := tiles_good hW hH hc rfl rfl hj
    rw [tl_get _ _ _ _ hj]
    have e1 : Int.tmod (j : Int) (((W + 15) / 16 : Nat) : Int) = ((j % ((W + 15) / 16) : Nat) : Int) := by rw [Int.tmod_eq_emod_of_nonneg (Int.natCast_nonneg _)]; rfl
    have e2 : wrap64 (Int.tdiv (j : Int) (((W + 15) / 16 : Nat) : Int)) = ((j / ((W + 15) / 16) : Nat) : Int) := by
      rw [Int.tdiv_eq_ediv_of_nonneg (Int.natCast_nonneg _), ← Int.natCast_ediv]
      generalize j / ((W + 15) / 16) = b at *
      exact w64 (by omega) (by omega)
    rw [e1, e2]
    exact ⟨tile_w g3 hW, tile_w g4 hH, tile_chk hc g3 g4⟩)
  rw [fill_pick hL] at key
  · exact key
  · intro x y hI
    obtain ⟨h1, h2, h3, h4⟩ := hI
    obtain ⟨x, rfl⟩ := Int.eq_ofNat_of_zero_le h1
    obtain ⟨y, rfl⟩ := Int.eq_ofNat_of_zero_le h3
    have hx : x < W := by omega
    have hy : y < H := by omega
    have hi : y / 16 * ((W + 15) / 16) + x / 16 < (W + 15) / 16 * ((H + 15) / 16) := idx_lt (by omega) (by omega)
    have m1 : (y / 16 * ((W + 15) / 16) + x / 16) % ((W + 15) / 16) = x / 16 := by rw [Nat.add_comm, Nat.add_mul_mod_self_right, Nat.mod_eq_of_lt (by omega)]
    have m2 : (y / 16 * ((W + 15) / 16) + x / 16) / ((W + 15) / 16) = y / 16 := by rw [Nat.add_comm, Nat.add_mul_div_right _ _ (by omega), Nat.div_eq_of_lt (by omega), Nat.zero_add]
    have ht := tl_get W H l ((W + 15) / 16) hi
    rw [m1, m2] at ht
    simp only [joinG, Int.toNat_natCast, ht]
    exact tile_pick hx hy
end Go.Proofs.Ytjepbimgddgijaa.Pure
