/- Join: the program and the specification compute the same image of tiles. No conditions. -/
import Derived.Test.YtjepbimgddgijaaPAll
import Derived.Test.YtjepbimgddgijaaG10
import Derived.Test.YtjepbimgddgijaaG19
namespace Go.Proofs.Ytjepbimgddgijaa.Pure
open Go.RowKit Go.Proofs.YtjepbimgddgijaaW.PrintWords Go.Proofs.YtjepbimgddgijaaW.PrintLast Go.Proofs.YtjepbimgddgijaaW.PrintMore Go.Proofs.Ytjepbimgddgijaa.G
set_option linter.unusedVariables false
set_option linter.unusedSimpArgs false

theorem idx_lt {p q r s : Nat} (a : s < p) (b : q < r) : q * p + s < p * r := by
  have c := Nat.mul_le_mul_left p (show q + 1 ≤ r from b)
  rw [Nat.mul_add, Nat.mul_one, Nat.mul_comm p q] at c
  omega
theorem td16 (x : Nat) : Int.tdiv (x : Int) 16 = ((x / 16 : Nat) : Int) := by rw [Int.tdiv_eq_ediv_of_nonneg (by omega)]; rfl
theorem tm16 (x : Nat) : Int.tmod (x : Int) 16 = ((x % 16 : Nat) : Int) := by rw [Int.tmod_eq_emod_of_nonneg (by omega)]; rfl
theorem cols {w : Nat} (h1 : 1 ≤ w) (h : w ≤ 256) : wrap64 (Int.tdiv (wrap64 ((wrap64 ((w : Int) + 16)) - 1)) 16) = (((w + 15) / 16 : Nat) : Int) := by
  have e1 : wrap64 ((w : Int) + 16) = (w : Int) + 16 := w64 (by omega) (by omega)
  have e2 : wrap64 ((w : Int) + 16 - 1) = ((w + 15 : Nat) : Int) := by rw [w64 (by omega) (by omega)]; omega
  rw [e1, e2, td16]
  exact w64 (by omega) (by omega)
theorem cols' {w : Nat} (h1 : 1 ≤ w) (h : w ≤ 256) : wrap64 (Int.tdiv (wrap64 ((w : Int) + 15)) 16) = (((w + 15) / 16 : Nat) : Int) := by
  have e2 : wrap64 ((w : Int) + 15) = ((w + 15 : Nat) : Int) := by rw [w64 (by omega) (by omega)]; omega
  rw [e2, td16]
  exact w64 (by omega) (by omega)
theorem prod16 {p q : Nat} (hp : p ≤ 16) (hq : q ≤ 16) : wrap64 ((p : Int) * (q : Int)) = ((p * q : Nat) : Int) := by
  have h := Nat.mul_le_mul hp hq
  rw [← Int.natCast_mul]
  exact w64 (by omega) (by omega)
theorem idx_eq {col x y : Nat} (hx : x < 256) (hy : y < 256) (hc : col ≤ 16) : wrap64 ((wrap64 ((wrap64 (Int.tdiv (y : Int) 16)) * (col : Int))) + (wrap64 (Int.tdiv (x : Int) 16))) = ((y / 16 * col + x / 16 : Nat) : Int) := by
  have h1 : y / 16 ≤ 16 := by omega
  have h2 : x / 16 ≤ 16 := by omega
  rw [td16, td16]
  generalize y / 16 = q at *
  generalize x / 16 = s at *
  have hm := Nat.mul_le_mul h1 hc
  rw [w64 (x := (q : Int)) (by omega) (by omega), w64 (x := (s : Int)) (by omega) (by omega), prod16 h1 hc, w64 (by omega) (by omega)]
  omega
/-- A pixel of the image that is joined of tiles. -/
def joinG (tiles : List S24) (col : Nat) (x y : Int) : S26 := let t := rd_T24 tiles ((y.toNat / 16 * col + x.toNat / 16 : Nat) : Int); pick t.f0 t.f1 t.f2 ((x.toNat % 16 : Nat) : Int) ((y.toNat % 16 : Nat) : Int)
/-- The first tiles have no error. -/
def Good (tiles : List S24) (i : Nat) : Prop := ∀ j : Nat, j < i → chk (rd_T24 tiles (j : Int)).f0 (rd_T24 tiles (j : Int)).f1 (rd_T24 tiles (j : Int)).f2 = 0
theorem join_idx {w h : Nat} {tiles : List S24} (hl : tiles.length = (w + 15) / 16 * ((h + 15) / 16)) {x y : Nat} (hx : x < w) (hy : y < h) : y / 16 * ((w + 15) / 16) + x / 16 < tiles.length := by
  rw [hl]
  exact idx_lt (by omega) (by omega)
section
variable {w h : Nat} (hw1 : 1 ≤ w) (hw : w ≤ 256) (hh1 : 1 ≤ h) (hh : h ≤ 256) {tiles : List S24} (hl : tiles.length = (w + 15) / 16 * ((h + 15) / 16))
include hw1 hw hh1 hh hl
theorem join_fill (hg : Good tiles tiles.length) : Ev (fun k => raster_fill__raster_Join_1.f k (w : Int) (h : Int) tiles (((w + 15) / 16 : Nat) : Int)) ((w : Int), (h : Int), fillL w (h * w) (joinG tiles ((w + 15) / 16))) := by
  have ha := Nat.mul_le_mul hw hh
  have e : wrap64 ((w : Int) * (h : Int)) = ((w * h : Nat) : Int) := by rw [← Int.natCast_mul]; exact w64 (by omega) (by omega)
  have hI := fun x y : Nat => join_idx (x := x) (y := y) hl
  have hc : (w + 15) / 16 ≤ 16 := by omega
  clear hl
  generalize (w + 15) / 16 = col at *
  unfold raster_fill__raster_Join_1.f
  simp only [e, if_pos (show 0 ≤ ((w * h : Nat) : Int) by omega), if_pos (show (((w * h : Nat) : Int)).toNat ≤ 8796093022208 by omega)]
  refine rows_abs w h (joinG tiles col) hw hh (fun k y' acc => raster_fill__raster_Join_1.l0 k (w : Int) (h : Int) y' tiles (col : Int) (w : Int) (h : Int) acc) (fun k y' x' acc => raster_fill__raster_Join_1.l1 k (w : Int) y' (h : Int) y' (w : Int) x' tiles (col : Int) (w : Int) (h : Int) acc) (fun acc => ((w : Int), (h : Int), acc)) ?_ ?_ ?_ ?_
  · intro v acc r hv hE
    exact .step (fun k => by rw [raster_fill__raster_Join_1.l0, if_pos (by omega)]) hE
  · intro v u acc r hv hu hacc hE
    have hi := hI u v hu hv
    have e1 : raster_Join_1.f (u : Int) (v : Int) tiles (col : Int) = some ((joinG tiles col u v).f0, (joinG tiles col u v).f1, (joinG tiles col u v).f2, (joinG tiles col u v).f3) := by
      unfold raster_Join_1.f
      obtain ⟨hs, hL, _⟩ := chk_ok (hg _ hi)
      rw [idx_eq (by omega) (by omega) hc, if_pos (Int.natCast_nonneg _), if_pos (Int.ofNat_lt.2 hi), get_eq hs hL, tm16, tm16]
      rfl
    exact .step (fun k => by rw [raster_fill__raster_Join_1.l1, if_pos (by omega), e1, Option.bind_some, if_pos (by omega), w64 (show -9223372036854775808 ≤ (u : Int) + 1 by omega) (by omega)]) hE
  · intro v acc r hv hE
    exact .step (fun k => by rw [raster_fill__raster_Join_1.l1, if_neg (by omega), w64 (by omega) (by omega)]) hE
  · intro acc
    exact .step (fun k => by rw [raster_fill__raster_Join_1.l0, if_neg (by omega)]) (.now _)
theorem join_loop (hg : Good tiles tiles.length) : Ev (fun k => imageeditorref11_Join.l1 k (w : Int) (h : Int) tiles (((w + 15) / 16 : Nat) : Int) 0 (w : Int) (h : Int) []) ((w : Int), (h : Int), fillL w (h * w) (joinG tiles ((w + 15) / 16)), 0) := by
  have ha := Nat.mul_le_mul hw hh
  have hI := fun x y : Nat => join_idx (x := x) (y := y) hl
  have hc : (w + 15) / 16 ≤ 16 := by omega
  clear hl
  generalize (w + 15) / 16 = col at *
  refine rows_abs w h (joinG tiles col) hw hh (fun k y' acc => imageeditorref11_Join.l1 k (w : Int) (h : Int) tiles (col : Int) y' (w : Int) (h : Int) acc) (fun k y' x' acc => imageeditorref11_Join.l2 k (w : Int) (h : Int) tiles (col : Int) y' x' (w : Int) (h : Int) acc) (fun acc => ((w : Int), (h : Int), acc, 0)) ?_ ?_ ?_ ?_
  · intro v acc r hv hE
    exact .step (fun k => by rw [imageeditorref11_Join.l1, if_pos (by omega)]) hE
  · intro v u acc r hv hu hacc hE
    have hi := hI u v hu hv
    obtain ⟨hs, hL, _⟩ := chk_ok (hg _ hi)
    refine .step (fun k => by rw [imageeditorref11_Join.l2, if_pos (by omega), idx_eq (by omega) (by omega) hc, if_pos (Int.natCast_nonneg _), if_pos (Int.ofNat_lt.2 hi), pick_eq hs hL, tm16, tm16, Option.bind_some, if_pos (by omega), w64 (show -9223372036854775808 ≤ (u : Int) + 1 by omega) (by omega)]) ?_
    exact hE
  · intro v acc r hv hE
    exact .step (fun k => by rw [imageeditorref11_Join.l2, if_neg (by omega), w64 (by omega) (by omega)]) hE
  · intro acc
    exact .step (fun k => by rw [imageeditorref11_Join.l1, if_neg (by omega)]) (.now _)
theorem join_check : ∀ (n i : Nat), i + n = tiles.length → Good tiles i → ∃ r : Res, (r.2.2.1.length : Int) ≤ 65536 ∧ Ev (fun k => raster_Join.l0 k (w : Int) (h : Int) tiles (tiles.length : Int) (i : Int) tiles (((w + 15) / 16 : Nat) : Int)) r ∧ Ev (fun k => imageeditorref11_Join.l0 k (w : Int) (h : Int) tiles (((w + 15) / 16 : Nat) : Int) (i : Int)) r := by
  intro n
  have ht : tiles.length ≤ 256 := by rw [hl]; exact Nat.mul_le_mul (show (w + 15) / 16 ≤ 16 by omega) (show (h + 15) / 16 ≤ 16 by omega)
  induction n with
  | zero =>
    intro i hi hg
    obtain rfl : i = tiles.length := by omega
    refine ⟨((w : Int), (h : Int), fillL w (h * w) (joinG tiles ((w + 15) / 16)), 0), ?_, ?_, ?_⟩
    · show ((fillL w (h * w) (joinG tiles ((w + 15) / 16))).length : Int) ≤ 65536
      rw [fillL_length]
      have := Nat.mul_le_mul hh hw
      omega
    · refine .step (fun k => by rw [raster_Join.l0, if_neg (by omega)]) ?_
      exact (join_fill hw1 hw hh1 hh hl hg).bind (.now _)
    · refine .step (fun k => by rw [imageeditorref11_Join.l0, if_neg (by omega)]) ?_
      exact join_loop hw1 hw hh1 hh hl hg
  | succ n ih =>
    intro i hi hg
    have hc0 : ¬ ((((w + 15) / 16 : Nat) : Int) = 0) := by omega
    have ih' := ih (i + 1) (by omega)
    have hi1 : (i : Int) < (tiles.length : Int) := by omega
    have hi0 : (0 : Int) ≤ (i : Int) := by omega
    have ew : wrap64 ((i : Int) + 1) = ((i + 1 : Nat) : Int) := by rw [w64 (by omega) (by omega)]; rfl
    clear ih hi hl
    generalize (((w + 15) / 16 : Nat) : Int) = col at *
    have bad1 : ∀ a b c, Ev (fun k => raster_Join.j2 k (w : Int) (h : Int) tiles (tiles.length : Int) (i : Int) true tiles col a b c) (0, 0, [], 15) := fun a b c => .step (f := fun _ => some (0, 0, [], 15)) (fun k => by rw [raster_Join.j2, if_pos rfl]) (.now _)
    have bad2 : Ev (fun k => imageeditorref11_Join.j2 k (w : Int) (h : Int) tiles col (i : Int) true) (0, 0, [], 15) := .step (f := fun _ => some (0, 0, [], 15)) (fun k => by rw [imageeditorref11_Join.j2, if_pos rfl]) (.now _)
    by_cases c1 : (rd_T24 tiles (i : Int)).f0 = mn 16 (wrap64 ((w : Int) - (wrap64 ((Int.tmod (i : Int) col) * 16))))
    case neg =>
      refine ⟨(0, 0, [], 15), by simp, ?_, ?_⟩
      · exact .step (fun k => by rw [raster_Join.l0, if_pos hi1, if_pos hi0, if_pos hi1, if_neg hc0, if_neg c1]) (bad1 _ _ _)
      · exact .step (fun k => by rw [imageeditorref11_Join.l0, if_pos hi1, if_pos hi0, if_neg hc0, Int.mul_comm 16 (Int.tmod (i : Int) col), if_neg c1]) bad2
    have s1 : ∀ r : Res, Ev (fun k => raster_Join.j2 k (w : Int) (h : Int) tiles (tiles.length : Int) (i : Int) (((rd_T24 tiles (i : Int)).f1) != (mn 16 (wrap64 ((h : Int) - (wrap64 ((wrap64 (Int.tdiv (i : Int) col)) * 16)))))) tiles col (rd_T24 tiles (i : Int)).f0 (rd_T24 tiles (i : Int)).f1 (rd_T24 tiles (i : Int)).f2) r → Ev (fun k => raster_Join.l0 k (w : Int) (h : Int) tiles (tiles.length : Int) (i : Int) tiles col) r := fun r hr =>
      .step (fun k => by rw [raster_Join.l0, if_pos hi1, if_pos hi0, if_pos hi1, if_neg hc0, if_pos c1]) hr
    have s2 : ∀ r : Res, Ev (fun k => imageeditorref11_Join.j2 k (w : Int) (h : Int) tiles col (i : Int) (((rd_T24 tiles (i : Int)).f1) != (mn 16 (wrap64 ((h : Int) - (wrap64 ((wrap64 (Int.tdiv (i : Int) col)) * 16))))))) r → Ev (fun k => imageeditorref11_Join.l0 k (w : Int) (h : Int) tiles col (i : Int)) r := fun r hr =>
      .step (fun k => by rw [imageeditorref11_Join.l0, if_pos hi1, if_pos hi0, if_neg hc0, Int.mul_comm 16 (Int.tmod (i : Int) col), if_pos c1, Int.mul_comm 16 (wrap64 (Int.tdiv (i : Int) col))]) hr
    cases hb : ((rd_T24 tiles (i : Int)).f1) != (mn 16 (wrap64 ((h : Int) - (wrap64 ((wrap64 (Int.tdiv (i : Int) col)) * 16))))) with
    | true =>
      rw [hb] at s1 s2
      exact ⟨(0, 0, [], 15), by simp, s1 _ (bad1 _ _ _), s2 _ bad2⟩
    | false =>
      rw [hb] at s1 s2
      by_cases hk : chk (rd_T24 tiles (i : Int)).f0 (rd_T24 tiles (i : Int)).f1 (rd_T24 tiles (i : Int)).f2 = 0
      · obtain ⟨r, hr, h1, h2⟩ := ih' (fun j hj => by
          by_cases e : j = i
          · rw [e]; exact hk
          · exact hg j (by omega))
        refine ⟨r, hr, s1 _ ?_, s2 _ ?_⟩
        · refine .step (fun k => by rw [raster_Join.j2, if_neg (by simp)]) ?_
          refine (check_eq _ _ _).bind ?_
          simp only [if_pos hk, ew]
          exact h1
        · refine .step (fun k => by rw [imageeditorref11_Join.j2, if_neg (by simp), if_pos hi0, if_pos hi1]) ?_
          refine (check_eq' _ _ _).bind ?_
          simp only [if_pos hk, ew]
          exact h2
      · refine ⟨(0, 0, [], chk (rd_T24 tiles (i : Int)).f0 (rd_T24 tiles (i : Int)).f1 (rd_T24 tiles (i : Int)).f2), by simp, s1 _ ?_, s2 _ ?_⟩
        · refine .step (fun k => by rw [raster_Join.j2, if_neg (by simp)]) ?_
          refine (check_eq _ _ _).bind ?_
          simp only [if_neg hk]
          exact .now _
        · refine .step (fun k => by rw [imageeditorref11_Join.j2, if_neg (by simp), if_pos hi0, if_pos hi1]) ?_
          refine (check_eq' _ _ _).bind ?_
          simp only [if_neg hk]
          exact .now _
end
theorem join_both (w h : Int) (tiles : List S24) : ∃ r : Res, (r.2.2.1.length : Int) ≤ 65536 ∧ Ev (fun k => raster_Join.f k w h tiles) r ∧ Ev (fun k => imageeditorref11_Join.f k w h tiles) r := by
  have bad1 : Ev (fun k => raster_Join.j0 k w h true tiles) (0, 0, [], 15) := .step (f := fun _ => some (0, 0, [], 15)) (fun k => by rw [raster_Join.j0, if_pos rfl]) (.now _)
  have bad2 : Ev (fun k => imageeditorref11_Join.j0 k w h tiles true) (0, 0, [], 15) := .step (f := fun _ => some (0, 0, [], 15)) (fun k => by rw [imageeditorref11_Join.j0, if_pos rfl]) (.now _)
  unfold raster_Join.f imageeditorref11_Join.f
  by_cases c1 : w < 1
  · simp only [if_pos c1]; exact ⟨_, by simp, bad1, bad2⟩
  by_cases c2 : w > 256
  · simp only [if_neg c1, if_pos c2]; exact ⟨_, by simp, bad1, bad2⟩
  by_cases c3 : h < 1
  · simp only [if_neg c1, if_neg c2, if_pos c3]; exact ⟨_, by simp, bad1, bad2⟩
  by_cases c4 : h > 256
  · simp only [if_neg c1, if_neg c2, if_neg c3, decide_eq_true c4]; exact ⟨_, by simp, bad1, bad2⟩
  simp only [if_neg c1, if_neg c2, if_neg c3, decide_eq_false c4]
  obtain ⟨w, rfl⟩ := Int.eq_ofNat_of_zero_le (show 0 ≤ w by omega)
  obtain ⟨h, rfl⟩ := Int.eq_ofNat_of_zero_le (show 0 ≤ h by omega)
  have hw1 : 1 ≤ w := by omega
  have hw : w ≤ 256 := by omega
  have hh1 : 1 ≤ h := by omega
  have hh : h ≤ 256 := by omega
  have e1 := cols hw1 hw
  have e2 := cols hh1 hh
  have e3 := cols' hw1 hw
  have e4 := cols' hh1 hh
  have ep := prod16 (show (w + 15) / 16 ≤ 16 by omega) (show (h + 15) / 16 ≤ 16 by omega)
  by_cases hl : tiles.length = (w + 15) / 16 * ((h + 15) / 16)
  · obtain ⟨r, hr, h1, h2⟩ := join_check hw1 hw hh1 hh hl tiles.length 0 (by omega) (fun j hj => by omega)
    refine ⟨r, hr, ?_, ?_⟩
    · refine .step (fun k => by rw [raster_Join.j0, if_neg (by simp), e1, e2, ep, if_pos (by rw [hl])]) ?_
      exact h1
    · refine .step (fun k => by rw [imageeditorref11_Join.j0, if_neg (by simp), e3, e4, ep, if_pos (by rw [hl])]) ?_
      exact h2
  · have hl' : ¬ ((tiles.length : Int) = (((w + 15) / 16 * ((h + 15) / 16) : Nat) : Int)) := fun h => hl (Int.ofNat.inj h)
    refine ⟨(0, 0, [], 15), by simp, ?_, ?_⟩
    · exact .step (f := fun _ => some (0, 0, [], 15)) (fun k => by rw [raster_Join.j0, if_neg (by simp), e1, e2, ep, if_neg hl']) (.now _)
    · exact .step (f := fun _ => some (0, 0, [], 15)) (fun k => by rw [imageeditorref11_Join.j0, if_neg (by simp), e3, e4, ep, if_neg hl']) (.now _)
end Go.Proofs.Ytjepbimgddgijaa.Pure
