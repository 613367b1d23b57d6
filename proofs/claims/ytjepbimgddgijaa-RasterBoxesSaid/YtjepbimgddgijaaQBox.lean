/- Box: the program and the specification compute the same rectangle. No conditions. -/
import Derived.Test.YtjepbimgddgijaaPAll
import Derived.Test.YtjepbimgddgijaaG8
namespace Go.Proofs.Ytjepbimgddgijaa.Pure
open Go.RowKit Go.Proofs.YtjepbimgddgijaaW.PrintWords Go.Proofs.YtjepbimgddgijaaW.PrintLast Go.Proofs.YtjepbimgddgijaaW.PrintMore Go.Proofs.Ytjepbimgddgijaa.G
set_option linter.unusedVariables false
set_option linter.unusedSimpArgs false

abbrev Q4 := Int × Int × Int × Int
/-- The least and the greatest columns and rows so far: one more pixel. -/
def bxStep (W : Nat) (l : List S26) (n : Nat) (s : Q4) : Q4 := if (rd_T26 l (n : Int)).f3 = 0 then s else (mn s.1 ((n % W : Nat) : Int), mn s.2.1 ((n / W : Nat) : Int), mx s.2.2.1 (((n % W : Nat) : Int) + 1), mx s.2.2.2 (((n / W : Nat) : Int) + 1))
def bx (W H : Nat) (l : List S26) : Nat → Q4
  | 0 => ((W : Int), (H : Int), 0, 0)
  | n + 1 => bxStep W l n (bx W H l n)
theorem bx_succ (W H : Nat) (l : List S26) (n : Nat) : bx W H l (n + 1) = bxStep W l n (bx W H l n) := by rw [bx]
theorem tdW {i W H : Nat} (h : i / W < H) (hH : H ≤ 256) : wrap64 (Int.tdiv (i : Int) (W : Int)) = ((i / W : Nat) : Int) := by
  rw [Int.tdiv_eq_ediv_of_nonneg (by omega), ← Int.natCast_ediv]
  generalize i / W = q at *
  exact w64 (by omega) (by omega)
theorem tmW (i W : Nat) : Int.tmod (i : Int) (W : Int) = ((i % W : Nat) : Int) := by rw [Int.tmod_eq_emod_of_nonneg (by omega)]; rfl
theorem w1 {a : Nat} (h : a ≤ 65536) : wrap64 ((a : Int) + 1) = (a : Int) + 1 := w64 (by omega) (by omega)
def rectOf (s : Q4) : Q4 := if s.1 ≥ s.2.2.1 then (0, 0, 0, 0) else (s.1, s.2.1, s.2.2.1 - s.1, s.2.2.2 - s.2.1)
def BInv (W H : Nat) (s : Q4) : Prop := s = ((W : Int), (H : Int), 0, 0) ∨ (0 ≤ s.1 ∧ s.1 < s.2.2.1 ∧ s.2.2.1 ≤ W ∧ 0 ≤ s.2.1 ∧ s.2.1 < s.2.2.2 ∧ s.2.2.2 ≤ H)
theorem mn_le (a b : Int) : mn a b ≤ a ∧ mn a b ≤ b ∧ (mn a b = a ∨ mn a b = b) := by unfold mn; split <;> omega
theorem mx_ge (a b : Int) : a ≤ mx a b ∧ b ≤ mx a b ∧ (mx a b = a ∨ mx a b = b) := by unfold mx; split <;> omega
/-- What one more pixel (x, y) does. -/
def grow (s : Q4) (x y : Int) : Q4 := (mn s.1 x, mn s.2.1 y, mx s.2.2.1 (x + 1), mx s.2.2.2 (y + 1))
theorem grow_inv {W H : Nat} {s : Q4} (hs : BInv W H s) {x y : Int} (hx : 0 ≤ x) (hx' : x < W) (hy : 0 ≤ y) (hy' : y < H) : BInv W H (grow s x y) := by
  obtain ⟨a, b, c, d⟩ := s
  right
  simp only [grow]
  have m1 := mn_le a x
  have m2 := mn_le b y
  have m3 := mx_ge c (x + 1)
  have m4 := mx_ge d (y + 1)
  rcases hs with h | h
  · simp only [Prod.mk.injEq] at h
    omega
  · simp only at h
    omega
theorem bx_inv {W H : Nat} (l : List S26) : ∀ n, n ≤ W * H → BInv W H (bx W H l n) := by
  intro n
  induction n with
  | zero => intro _; exact .inl rfl
  | succ n ih =>
    intro hn
    have i := ih (by omega)
    have hW : 0 < W := by
      rcases Nat.eq_zero_or_pos W with h | h
      · subst h; rw [Nat.zero_mul] at hn; omega
      · exact h
    have h1 : n % W < W := Nat.mod_lt _ hW
    have h2 : n / W < H := Nat.div_lt_of_lt_mul (by omega)
    rw [bx_succ, bxStep]
    split
    · exact i
    · exact grow_inv i (Int.natCast_nonneg _) (Int.ofNat_lt.2 h1) (Int.natCast_nonneg _) (Int.ofNat_lt.2 h2)
theorem rectOf_w {W H : Nat} (hW : W ≤ 256) (hH : H ≤ 256) (s : Q4) (hs : BInv W H s) : (if s.1 ≥ s.2.2.1 then (some ((0 : Int), (0 : Int), (0 : Int), (0 : Int))) else (some (s.1, s.2.1, wrap64 (s.2.2.1 - s.1), wrap64 (s.2.2.2 - s.2.1)))) = some (rectOf s) := by
  unfold rectOf
  by_cases c : s.1 ≥ s.2.2.1
  · rw [if_pos c, if_pos c]
  · rw [if_neg c, if_neg c]
    rcases hs with h | h
    · rw [h] at c
      exact absurd (show (W : Int) ≥ 0 by omega) c
    · rw [w64 (by omega) (by omega), w64 (by omega) (by omega)]
section
variable {W H : Nat} (hW : W ≤ 256) (hH : H ≤ 256) {l : List S26} (hl : l.length = W * H)
include hW hH hl
theorem boxLoop : ∀ (n i : Nat), i + n = l.length → Ev (fun k => raster_Box.l0 k (bx W H l i).1 (bx W H l i).2.1 (bx W H l i).2.2.1 (bx W H l i).2.2.2 l (l.length : Int) (i : Int) (W : Int) (H : Int) l) (rectOf (bx W H l l.length)) := by
  have ha := Nat.mul_le_mul hW hH
  intro n
  induction n with
  | zero =>
    intro i hi
    obtain rfl : i = l.length := by omega
    exact .step (f := fun _ => some _) (fun k => by rw [raster_Box.l0, if_neg (by omega), rectOf_w hW hH _ (bx_inv l _ (by omega))]) (.now _)
  | succ n ih =>
    intro i hi
    have hW0 : 0 < W := by
      rcases Nat.eq_zero_or_pos W with h | h
      · subst h; rw [Nat.zero_mul] at hl; omega
      · exact h
    have h1 : i % W < W := Nat.mod_lt _ hW0
    have h2 : i / W < H := Nat.div_lt_of_lt_mul (by omega)
    have g1 : (i : Int) < (l.length : Int) := by omega
    have g0 : (0 : Int) ≤ (i : Int) := by omega
    have gW : ¬ ((W : Int) = 0) := by omega
    have hi' := ih (i + 1) (by omega)
    have e3 : wrap64 ((i : Int) + 1) = ((i + 1 : Nat) : Int) := w1 (by omega)
    have e4 := w1 (a := i % W) (Nat.le_trans (Nat.le_of_lt h1) (Nat.le_trans hW (by decide)))
    have e5 := w1 (a := i / W) (Nat.le_trans (Nat.le_of_lt h2) (Nat.le_trans hH (by decide)))
    have t1 := tmW i W
    have t2 := tdW h2 hH
    clear ih
    by_cases hp : (rd_T26 l (i : Int)).f3 = 0
    · refine .step (fun k => by rw [raster_Box.l0, if_pos g1, if_pos g0, if_pos g1, if_pos hp, e3]) ?_
      rw [bx_succ, bxStep, if_pos hp] at hi'
      exact hi'
    · refine .step (fun k => by rw [raster_Box.l0, if_pos g1, if_pos g0, if_pos g1, if_neg hp, if_neg gW, t1, t2, e3, e4, e5]) ?_
      rw [bx_succ, bxStep, if_neg hp] at hi'
      exact hi'
end
def boxR (W H : Int) (l : List S26) : Q4 := if chk W H l = 0 then rectOf (bx W.toNat H.toNat l l.length) else (0, 0, 0, 0)
theorem box_eq (W H : Int) (l : List S26) : Ev (fun k => raster_Box.f k W H l) (boxR W H l) := by
  unfold raster_Box.f boxR
  refine (check_eq W H l).bind ?_
  by_cases hc : chk W H l = 0
  case neg => simp only [if_neg hc]; exact .now _
  simp only [if_pos hc]
  obtain ⟨hs, hl, _⟩ := chk_ok hc
  obtain ⟨W, H, rfl, rfl, hW, hH, _⟩ := nats hs
  have hl' : l.length = W * H := by rw [← Int.natCast_mul] at hl; omega
  exact boxLoop hW hH hl' l.length 0 (by omega)
end Go.Proofs.Ytjepbimgddgijaa.Pure
