/- Box: the program and the specification compute the same rectangle. No conditions. -/
import Derived.Test.YtjepbimgddgijaaPCrop
import Derived.Test.YtjepbimgddgijaaG8
import Derived.Test.YtjepbimgddgijaaG17
import Derived.Test.YtjepbimgddgijaaG18
namespace Go.Proofs.Ytjepbimgddgijaa.Pure
open Go.RowKit Go.Proofs.YtjepbimgddgijaaW.PrintWords Go.Proofs.YtjepbimgddgijaaW.PrintLast Go.Proofs.YtjepbimgddgijaaW.PrintMore Go.Proofs.Ytjepbimgddgijaa.G
set_option linter.unusedVariables false
set_option linter.unusedSimpArgs false

abbrev Q4 := Int × Int × Int × Int
/-- The least and the greatest columns and rows so far: one more pixel. -/
def bxStep (W : Nat) (l : List S26) (n : Nat) (s : Q4) : Q4 := if (rd_T26 l (n : Int)).f3 = 0 then s else (mn s.1 ((n % W : Nat) : Int), mn s.2.1 ((n / W : Nat) : Int), mx s.2.2.1 (((n % W : Nat) : Int) + 1), mx s.2.2.2 (((n / W : Nat) : Int) + 1))
def bx (W H : Nat) (l : List S26) : Nat → Q4
  | 0 => ((W : Int), (H : Int), 0, 0)
  | n + 1 => bxStep W l n (bx W H l n)
theorem bx_succ (W H : Nat) (l : List S26) (n : Nat) : bx W H l (n + 1) = bxStep W l n (bx W H l n) := by rw [bx]
theorem tdW {i W H : Nat} (h : i / W < H) (hH : H ≤ 256) : wrap64 (Int.tdiv (i : Int) (W : Int)) = ((i / W : Nat) : Int) := by
  rw [Int.tdiv_eq_ediv_of_nonneg (by omega), ← Int.natCast_ediv]
  generalize i / W = q at *
  exact w64 (by omega) (by omega)
theorem tmW (i W : Nat) : Int.tmod (i : Int) (W : Int) = ((i % W : Nat) : Int) := by rw [Int.tmod_eq_emod_of_nonneg (by omega)]; rfl
theorem w1 {a : Nat} (h : a ≤ 65536) : wrap64 ((a : Int) + 1) = (a : Int) + 1 := w64 (by omega) (by omega)
def rectOf (s : Q4) : Q4 := if s.1 ≥ s.2.2.1 then (0, 0, 0, 0) else (s.1, s.2.1, s.2.2.1 - s.1, s.2.2.2 - s.2.1)
def BInv (W H : Nat) (s : Q4) : Prop := s = ((W : Int), (H : Int), 0, 0) ∨ (0 ≤ s.1 ∧ s.1 < s.2.2.1 ∧ s.2.2.1 ≤ W ∧ 0 ≤ s.2.1 ∧ s.2.1 < s.2.2.2 ∧ s.2.2.2 ≤ H)
theorem mn_le (a b : Int) : mn a b ≤ a ∧ mn a b ≤ b ∧ (mn a b = a ∨ mn a b = b) := by unfold mn; split <;> omega
theorem mx_ge (a b : Int) : a ≤ mx a b ∧ b ≤ mx a b ∧ (mx a b = a ∨ mx a b = b) := by unfold mx; split <;> omega
/-- What one more pixel (x, y) does. -/
def grow (s : Q4) (x y : Int) : Q4 := (mn s.1 x, mn s.2.1 y, mx s.2.2.1 (x + 1), mx s.2.2.2 (y + 1))
theorem grow_inv {W H : Nat} {s : Q4} (hs : BInv W H s) {x y : Int} (hx : 0 ≤ x) (hx' : x < W) (hy : 0 ≤ y) (hy' : y < H) : BInv W H (grow s x y) := by
  obtain ⟨a, b, c, d⟩ := s
  right
  simp only [grow]
  have m1 := mn_le a x
  have m2 := mn_le b y
  have m3 := mx_ge c (x + 1)
  have m4 := mx_ge d (y + 1)
  rcases hs with h | h
  · simp only [Prod.mk.injEq] at h
    omega
  · simp only at h
    omega
theorem bx_inv {W H : Nat} (l : List S26) : ∀ n, n ≤ W * H → BInv W H (bx W H l n) := by
  intro n
  induction n with
  | zero => intro _; exact .inl rfl
  | succ n ih =>
    intro hn
    have i := ih (by omega)
    have hW : 0 < W := by
      rcases Nat.eq_zero_or_pos W with h | h
      · subst h; rw [Nat.zero_mul] at hn; omega
      · exact h
    have h1 : n % W < W := Nat.mod_lt _ hW
    have h2 : n / W < H := Nat.div_lt_of_lt_mul (by omega)
    rw [bx_succ, bxStep]
    split
    · exact i
    · exact grow_inv i (Int.natCast_nonneg _) (Int.ofNat_lt.2 h1) (Int.natCast_nonneg _) (Int.ofNat_lt.2 h2)
theorem ofRect_eq {a b c d x y : Int} (h1 : 0 ≤ a) (h2 : a < c) (h3 : c ≤ 256) (h4 : 0 ≤ b) (h5 : b < d) (h6 : d ≤ 256) (hx : 0 ≤ x) (hx' : x < 256) (hy : 0 ≤ y) (hy' : y < 256) : imageeditorref02_of.f (mn a x) (mx (c - 1) x) (mn b y) (mx (d - 1) y) = some (mn a x, mn b y, mx c (x + 1) - mn a x, mx d (y + 1) - mn b y) := by
  have m1 := mn_le a x
  have m2 := mn_le b y
  have e3 : mx (c - 1) x = mx c (x + 1) - 1 := by unfold mx; split <;> split <;> omega
  have e4 : mx (d - 1) y = mx d (y + 1) - 1 := by unfold mx; split <;> split <;> omega
  have m3 := mx_ge c (x + 1)
  have m4 := mx_ge d (y + 1)
  rw [e3, e4]
  generalize mn a x = A at *
  generalize mn b y = B at *
  generalize mx c (x + 1) = C at *
  generalize mx d (y + 1) = D at *
  have b1 : 0 ≤ A ∧ A ≤ 256 := by omega
  have b2 : 0 ≤ B ∧ B ≤ 256 := by omega
  have b3 : A < C ∧ C ≤ 256 := by omega
  have b4 : B < D ∧ D ≤ 256 := by omega
  clear m1 m2 m3 m4 e3 e4
  have e1 : wrap64 ((wrap64 (C - 1 - A)) + 1) = C - A := by rw [w64 (x := C - 1 - A) (by omega) (by omega), w64 (by omega) (by omega)]; omega
  have e2 : wrap64 ((wrap64 (D - 1 - B)) + 1) = D - B := by rw [w64 (x := D - 1 - B) (by omega) (by omega), w64 (by omega) (by omega)]; omega
  unfold imageeditorref02_of.f
  rw [if_neg (by omega), if_neg (by omega), e1, e2]
theorem empty_no {x y w h : Int} (hx : 0 ≤ x) (hx' : x ≤ 256) (hy : 0 ≤ y) (hy' : y ≤ 256) (hw : 0 < w) (hw' : w ≤ 256) (hh : 0 < h) (hh' : h ≤ 256) : imageeditorref02_Empty.f x y w h = some false := by
  rw [rempty_eq' _ _ _ _ (by simp only [validR, decide_eq_true_eq]; omega), decide_eq_false (by omega)]
theorem span_no {x y w h : Int} (hx : 0 ≤ x) (hx' : x ≤ 256) (hy : 0 ≤ y) (hy' : y ≤ 256) (hw : 0 < w) (hw' : w ≤ 256) (hh : 0 < h) (hh' : h ≤ 256) : Ev (fun k => imageeditorref02_span.f k x y w h 0) (x, x + w - 1) ∧ Ev (fun k => imageeditorref02_span.f k x y w h 1) (y, y + h - 1) := by
  have hv : validR x y w h = true := by simp only [validR, decide_eq_true_eq]; omega
  have e1 : wrap64 ((wrap64 (x + w)) - 1) = x + w - 1 := by rw [w64 (x := x + w) (by omega) (by omega), w64 (by omega) (by omega)]
  have e2 : wrap64 ((wrap64 (y + h)) - 1) = y + h - 1 := by rw [w64 (x := y + h) (by omega) (by omega), w64 (by omega) (by omega)]
  unfold imageeditorref02_span.f
  simp only [rvalid_eq', hv, Option.bind_some, if_true, if_neg (show ¬ w = 0 by omega), show (h == 0) = false from by simp; omega]
  exact ⟨.step (f := fun _ => some (x, x + w - 1)) (fun k => by rw [imageeditorref02_span.j0, if_neg (by simp), if_pos rfl, e1]) (.now _), .step (f := fun _ => some (y, y + h - 1)) (fun k => by rw [imageeditorref02_span.j0, if_neg (by simp), if_neg (by simp), e2]) (.now _)⟩
theorem join_step {W H : Nat} (hW : W ≤ 256) (hH : H ≤ 256) {s : Q4} (hs : BInv W H s) {x y : Int} (hx : 0 ≤ x) (hx' : x < W) (hy : 0 ≤ y) (hy' : y < H) : Ev (fun k => imageeditorref02_Join.f k (rectOf s).1 (rectOf s).2.1 (rectOf s).2.2.1 (rectOf s).2.2.2 x y 1 1) (rectOf (grow s x y)) := by
  have hb := empty_no (x := x) (y := y) (w := 1) (h := 1) hx (by omega) hy (by omega) (by omega) (by omega) (by omega) (by omega)
  obtain ⟨a, b, c, d⟩ := s
  rcases hs with h | h
  · simp only [Prod.mk.injEq] at h
    obtain ⟨rfl, rfl, rfl, rfl⟩ := h
    have e0 : rectOf ((W : Int), (H : Int), 0, 0) = (0, 0, 0, 0) := if_pos (show (W : Int) ≥ 0 by omega)
    have e1 : rectOf (grow ((W : Int), (H : Int), 0, 0) x y) = (x, y, 1, 1) := by
      have g1 : mn (W : Int) x = x := by unfold mn; rw [if_pos hx']
      have g2 : mn (H : Int) y = y := by unfold mn; rw [if_pos hy']
      have g3 : mx 0 (x + 1) = x + 1 := by unfold mx; rw [if_pos (by omega)]
      have g4 : mx 0 (y + 1) = y + 1 := by unfold mx; rw [if_pos (by omega)]
      simp only [grow, g1, g2, g3, g4, rectOf]
      rw [if_neg (by omega), show x + 1 - x = 1 by omega, show y + 1 - y = 1 by omega]
    rw [e0, e1]
    have z : imageeditorref02_Empty.f 0 0 0 0 = some true := (rempty_eq' 0 0 0 0 (by decide)).trans (by simp)
    unfold imageeditorref02_Join.f
    simp only [z, hb, Option.bind_some, if_true]
    exact .step (f := fun _ => some (x, y, 1, 1)) (fun k => by rw [imageeditorref02_Join.j0, if_neg (by simp), z, Option.bind_some, if_pos rfl]) (.now _)
  · simp only at h
    obtain ⟨h1, h2, h3, h4, h5, h6⟩ := h
    have e0 : rectOf (a, b, c, d) = (a, b, c - a, d - b) := if_neg (show ¬ a ≥ c by omega)
    have e1 : rectOf (grow (a, b, c, d) x y) = (mn a x, mn b y, mx c (x + 1) - mn a x, mx d (y + 1) - mn b y) := if_neg (show ¬ mn a x ≥ mx c (x + 1) by have := mn_le a x; have := mx_ge c (x + 1); omega)
    rw [e0, e1]
    have ha := empty_no (x := a) (y := b) (w := c - a) (h := d - b) h1 (by omega) h4 (by omega) (by omega) (by omega) (by omega) (by omega)
    obtain ⟨s1, s2⟩ := span_no (x := a) (y := b) (w := c - a) (h := d - b) h1 (by omega) h4 (by omega) (by omega) (by omega) (by omega) (by omega)
    obtain ⟨s3, s4⟩ := span_no (x := x) (y := y) (w := 1) (h := 1) hx (by omega) hy (by omega) (by omega) (by omega) (by omega) (by omega)
    rw [show a + (c - a) - 1 = c - 1 by omega] at s1
    rw [show b + (d - b) - 1 = d - 1 by omega] at s2
    rw [show x + 1 - 1 = x by omega] at s3
    rw [show y + 1 - 1 = y by omega] at s4
    have ho := ofRect_eq (x := x) (y := y) h1 h2 (by omega) h4 h5 (by omega) hx (by omega) hy (by omega)
    unfold imageeditorref02_Join.f
    simp only [ha, Option.bind_some, Bool.false_eq_true, if_false]
    refine .step (fun k => by rw [imageeditorref02_Join.j0, if_neg (by simp), ha, Option.bind_some, if_neg (by simp), hb, Option.bind_some, if_neg (by simp)]) ?_
    refine s1.bind (s2.bind (s3.bind (s4.bind ?_)))
    simp only [ho, Option.bind_some]
    exact .now _
theorem rows_st {R S : Type} (w h : Nat) (s : Nat → S) (F0 : Nat → Int → S → Option R) (F1 : Nat → Int → Int → S → Option R) (r : R)
    (h0 : ∀ y : Nat, y < h → Ev (fun k => F1 k (y : Int) 0 (s (y * w))) r → Ev (fun k => F0 k (y : Int) (s (y * w))) r)
    (h1 : ∀ y x : Nat, y < h → x < w → Ev (fun k => F1 k (y : Int) ((x : Int) + 1) (s (y * w + x + 1))) r → Ev (fun k => F1 k (y : Int) (x : Int) (s (y * w + x))) r)
    (h2 : ∀ y : Nat, y < h → Ev (fun k => F0 k ((y : Int) + 1) (s ((y + 1) * w))) r → Ev (fun k => F1 k (y : Int) (w : Int) (s ((y + 1) * w))) r)
    (h3 : Ev (fun k => F0 k (h : Int) (s (h * w))) r) : Ev (fun k => F0 k 0 (s 0)) r := by
  have inner : ∀ (y : Nat), y < h → Ev (fun k => F0 k ((y : Int) + 1) (s ((y + 1) * w))) r → ∀ (m x : Nat), x + m = w → Ev (fun k => F1 k (y : Int) (x : Int) (s (y * w + x))) r := by
    intro y hy hn m
    induction m with
    | zero =>
      intro x hx
      obtain rfl : x = w := by omega
      rw [show y * x + x = (y + 1) * x by rw [Nat.succ_mul]]
      exact h2 y hy hn
    | succ m ih =>
      intro x hx
      exact h1 y x hy (by omega) (ih (x + 1) (by omega))
  have outer : ∀ (m y : Nat), y + m = h → Ev (fun k => F0 k (y : Int) (s (y * w))) r := by
    intro m
    induction m with
    | zero =>
      intro y hy
      obtain rfl : y = h := by omega
      exact h3
    | succ m ih =>
      intro y hy
      refine h0 y (by omega) ?_
      exact inner y (by omega) (ih (y + 1) (by omega)) w 0 (by omega)
  have := outer h 0 (by omega)
  simpa using this
theorem rectOf_w {W H : Nat} (hW : W ≤ 256) (hH : H ≤ 256) (s : Q4) (hs : BInv W H s) : (if s.1 ≥ s.2.2.1 then (some ((0 : Int), (0 : Int), (0 : Int), (0 : Int))) else (some (s.1, s.2.1, wrap64 (s.2.2.1 - s.1), wrap64 (s.2.2.2 - s.2.1)))) = some (rectOf s) := by
  unfold rectOf
  by_cases c : s.1 ≥ s.2.2.1
  · rw [if_pos c, if_pos c]
  · rw [if_neg c, if_neg c]
    rcases hs with h | h
    · rw [h] at c
      exact absurd (show (W : Int) ≥ 0 by omega) c
    · rw [w64 (by omega) (by omega), w64 (by omega) (by omega)]
section
variable {W H : Nat} (hW : W ≤ 256) (hH : H ≤ 256) {l : List S26} (hl : l.length = W * H)
include hW hH hl
theorem boxLoop : ∀ (n i : Nat), i + n = l.length → Ev (fun k => raster_Box.l0 k (bx W H l i).1 (bx W H l i).2.1 (bx W H l i).2.2.1 (bx W H l i).2.2.2 l (l.length : Int) (i : Int) (W : Int) (H : Int) l) (rectOf (bx W H l l.length)) := by
  have ha := Nat.mul_le_mul hW hH
  intro n
  induction n with
  | zero =>
    intro i hi
    obtain rfl : i = l.length := by omega
    exact .step (f := fun _ => some _) (fun k => by rw [raster_Box.l0, if_neg (by omega), rectOf_w hW hH _ (bx_inv l _ (by omega))]) (.now _)
  | succ n ih =>
    intro i hi
    have hW0 : 0 < W := by
      rcases Nat.eq_zero_or_pos W with h | h
      · subst h; rw [Nat.zero_mul] at hl; omega
      · exact h
    have h1 : i % W < W := Nat.mod_lt _ hW0
    have h2 : i / W < H := Nat.div_lt_of_lt_mul (by omega)
    have g1 : (i : Int) < (l.length : Int) := by omega
    have g0 : (0 : Int) ≤ (i : Int) := by omega
    have gW : ¬ ((W : Int) = 0) := by omega
    have hi' := ih (i + 1) (by omega)
    have e3 : wrap64 ((i : Int) + 1) = ((i + 1 : Nat) : Int) := w1 (by omega)
    have e4 := w1 (a := i % W) (Nat.le_trans (Nat.le_of_lt h1) (Nat.le_trans hW (by decide)))
    have e5 := w1 (a := i / W) (Nat.le_trans (Nat.le_of_lt h2) (Nat.le_trans hH (by decide)))
    have t1 := tmW i W
    have t2 := tdW h2 hH
    clear ih
    by_cases hp : (rd_T26 l (i : Int)).f3 = 0
    · refine .step (fun k => by rw [raster_Box.l0, if_pos g1, if_pos g0, if_pos g1, if_pos hp, e3]) ?_
      rw [bx_succ, bxStep, if_pos hp] at hi'
      exact hi'
    · refine .step (fun k => by rw [raster_Box.l0, if_pos g1, if_pos g0, if_pos g1, if_neg hp, if_neg gW, t1, t2, e3, e4, e5]) ?_
      rw [bx_succ, bxStep, if_neg hp] at hi'
      exact hi'
theorem boxLoop' (hs : sidesOk W H = true) : Ev (fun k => imageeditorref11_Box.l0 k 0 (W : Int) (H : Int) l 0 0 0 0) (rectOf (bx W H l l.length)) := by
  have ha := Nat.mul_le_mul hW hH
  have hl' : (l.length : Int) = (W : Int) * (H : Int) := by rw [hl]; exact Int.natCast_mul W H
  have e0 : rectOf (bx W H l 0) = (0, 0, 0, 0) := if_pos (show (W : Int) ≥ 0 by omega)
  have key := rows_st (R := Q4) W H (fun n => rectOf (bx W H l n)) (fun k y s => imageeditorref11_Box.l0 k y (W : Int) (H : Int) l s.1 s.2.1 s.2.2.1 s.2.2.2) (fun k y x s => imageeditorref11_Box.l1 k y x (W : Int) (H : Int) l s.1 s.2.1 s.2.2.1 s.2.2.2) (rectOf (bx W H l l.length)) ?_ ?_ ?_ ?_
  · simp only [e0] at key
    exact key
  · intro y hy hE
    exact .step (fun k => by rw [imageeditorref11_Box.l0, if_pos (by omega)]) hE
  · intro y x hy hx hE
    have hI : Ins (W : Int) (H : Int) (x : Int) (y : Int) := ⟨by omega, by omega, by omega, by omega⟩
    have hn : y * W + x < W * H := by
      have := (place_in hI).2
      rw [← Int.natCast_mul, ← Int.natCast_mul] at this
      omega
    have hp : pick (W : Int) (H : Int) l (x : Int) (y : Int) = rd_T26 l ((y * W + x : Nat) : Int) := by
      rw [pick_in hI]
      congr 1
    have m1 : (y * W + x) % W = x := by rw [Nat.add_comm, Nat.add_mul_mod_self_right, Nat.mod_eq_of_lt hx]
    have m2 : (y * W + x) / W = y := by rw [Nat.add_comm, Nat.add_mul_div_right _ _ (by omega), Nat.div_eq_of_lt hx, Nat.zero_add]
    refine .step (fun k => by rw [imageeditorref11_Box.l1, if_pos (by omega), pick_eq hs hl', Option.bind_some, w64 (show -9223372036854775808 ≤ (x : Int) + 1 by omega) (by omega), hp]) ?_
    have hb := bx_succ W H l (y * W + x)
    by_cases c : (rd_T26 l ((y * W + x : Nat) : Int)).f3 = 0
    · simp only [if_pos c]
      rw [hb, bxStep, if_pos c] at hE
      exact hE
    · simp only [if_neg c]
      rw [hb, bxStep, if_neg c, m1, m2] at hE
      refine (join_step hW hH (bx_inv l _ (by omega)) (by omega) (by omega) (by omega) (by omega)).bind ?_
      exact hE
  · intro y hy hE
    exact .step (fun k => by rw [imageeditorref11_Box.l1, if_neg (by omega), w64 (by omega) (by omega)]) hE
  · refine .step (f := fun _ => some _) (fun k => by rw [imageeditorref11_Box.l0, if_neg (by omega)]) ?_
    rw [show H * W = l.length by rw [hl, Nat.mul_comm]]
    exact .now _
end
def boxR (W H : Int) (l : List S26) : Q4 := if chk W H l = 0 then rectOf (bx W.toNat H.toNat l l.length) else (0, 0, 0, 0)
theorem box_eq (W H : Int) (l : List S26) : Ev (fun k => raster_Box.f k W H l) (boxR W H l) := by
  unfold raster_Box.f boxR
  refine (check_eq W H l).bind ?_
  by_cases hc : chk W H l = 0
  case neg => simp only [if_neg hc]; exact .now _
  simp only [if_pos hc]
  obtain ⟨hs, hl, _⟩ := chk_ok hc
  obtain ⟨W, H, rfl, rfl, hW, hH, _⟩ := nats hs
  have hl' : l.length = W * H := by rw [← Int.natCast_mul] at hl; omega
  exact boxLoop hW hH hl' l.length 0 (by omega)
theorem box_eq' (W H : Int) (l : List S26) : Ev (fun k => imageeditorref11_Box.f k W H l) (boxR W H l) := by
  unfold imageeditorref11_Box.f boxR
  refine (check_eq' W H l).bind ?_
  by_cases hc : chk W H l = 0
  case neg => simp only [if_neg hc]; exact .now _
  simp only [if_pos hc]
  obtain ⟨hs, hl, _⟩ := chk_ok hc
  obtain ⟨W, H, rfl, rfl, hW, hH, _⟩ := nats hs
  have hl' : l.length = W * H := by rw [← Int.natCast_mul] at hl; omega
  exact boxLoop' hW hH hl' hs
end Go.Proofs.Ytjepbimgddgijaa.Pure
