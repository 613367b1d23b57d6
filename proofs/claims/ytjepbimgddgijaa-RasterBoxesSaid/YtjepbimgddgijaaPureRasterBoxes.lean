/- RasterBoxes in plain words: of every valid image, Box is the smallest rectangle that holds the pixels that are not clear. For every image. -/
import Derived.Test.YtjepbimgddgijaaQBox
import Derived.Test.YtjepbimgddgijaaG10
import Derived.Test.YtjepbimgddgijaaG21
import Derived.Test.YtjepbimgddgijaaG22
namespace Go.Proofs.Ytjepbimgddgijaa.Pure
open Go.RowKit Go.Proofs.YtjepbimgddgijaaW.PrintWords Go.Proofs.YtjepbimgddgijaaW.PrintLast Go.Proofs.YtjepbimgddgijaaW.PrintMore Go.Proofs.Ytjepbimgddgijaa.G
set_option linter.unusedVariables false
set_option linter.unusedSimpArgs false

/-- One of the first n pixels that is not clear does as q says. -/
def fl (l : List S26) (q : Nat → Bool) (n : Nat) : Bool := (List.range n).any fun k => !((rd_T26 l (k : Int)).f3 == 0) && q k
theorem fl_succ (l : List S26) (q : Nat → Bool) (n : Nat) : fl l q (n + 1) = (fl l q n || (!((rd_T26 l (n : Int)).f3 == 0) && q n)) := by simp [fl, List.range_succ, List.any_append]
theorem fl_of {l : List S26} {q : Nat → Bool} {n : Nat} (h : ∃ k, k < n ∧ (rd_T26 l (k : Int)).f3 ≠ 0 ∧ q k = true) : fl l q n = true := by
  obtain ⟨k, hk, h1, h2⟩ := h
  rw [fl, List.any_eq_true]
  exact ⟨k, List.mem_range.2 hk, by simp [h1, h2]⟩
theorem wXB {a b : Int} (h : -9223372036854775808 ≤ a + b - 1 ∧ a + b ≤ 9223372036854775807) : wrap64 (a + b) = a + b ∧ wrap64 (a + b - 1) = a + b - 1 := ⟨w64 (by omega) (by omega), w64 (by omega) (by omega)⟩
/-- What the four numbers say of the first n pixels. -/
def BP (W H : Nat) (l : List S26) (n : Nat) (s : Q4) : Prop :=
  (s = ((W : Int), (H : Int), 0, 0) ∧ ∀ k, k < n → (rd_T26 l (k : Int)).f3 = 0) ∨
  ((∀ k, k < n → (rd_T26 l (k : Int)).f3 ≠ 0 → s.1 ≤ ((k % W : Nat) : Int) ∧ ((k % W : Nat) : Int) < s.2.2.1 ∧ s.2.1 ≤ ((k / W : Nat) : Int) ∧ ((k / W : Nat) : Int) < s.2.2.2) ∧
   (∃ k, k < n ∧ (rd_T26 l (k : Int)).f3 ≠ 0 ∧ ((k % W : Nat) : Int) = s.1) ∧ (∃ k, k < n ∧ (rd_T26 l (k : Int)).f3 ≠ 0 ∧ ((k / W : Nat) : Int) = s.2.1) ∧
   (∃ k, k < n ∧ (rd_T26 l (k : Int)).f3 ≠ 0 ∧ ((k % W : Nat) : Int) + 1 = s.2.2.1) ∧ (∃ k, k < n ∧ (rd_T26 l (k : Int)).f3 ≠ 0 ∧ ((k / W : Nat) : Int) + 1 = s.2.2.2))
theorem bx_bp {W H : Nat} (l : List S26) : ∀ n, n ≤ W * H → BP W H l n (bx W H l n) := by
  intro n
  induction n with
  | zero => intro _; exact .inl ⟨rfl, fun k hk => by omega⟩
  | succ n ih =>
    intro hn
    have i := ih (by omega)
    have hW : 0 < W := by
      rcases Nat.eq_zero_or_pos W with h | h
      · subst h; rw [Nat.zero_mul] at hn; omega
      · exact h
    have h1 : n % W < W := Nat.mod_lt _ hW
    have h2 : n / W < H := Nat.div_lt_of_lt_mul (by omega)
    show BP W H l (n + 1) (bxStep W l n (bx W H l n))
    unfold bxStep
    by_cases hz : (rd_T26 l (n : Int)).f3 = 0
    · rw [if_pos hz]
      rcases i with ⟨i1, i2⟩ | ⟨i1, ⟨a, a1, a2⟩, ⟨b, b1, b2⟩, ⟨c, c1, c2⟩, ⟨d, d1, d2⟩⟩
      · exact .inl ⟨i1, fun k hk => by
          by_cases e : k = n
          · rw [e]; exact hz
          · exact i2 k (by omega)⟩
      · refine .inr ⟨fun k hk hk' => ?_, ⟨a, by omega, a2⟩, ⟨b, by omega, b2⟩, ⟨c, by omega, c2⟩, ⟨d, by omega, d2⟩⟩
        by_cases e : k = n
        · rw [e] at hk'; exact absurd hz hk'
        · exact i1 k (by omega) hk'
    · rw [if_neg hz]
      right
      generalize bx W H l n = s at i
      obtain ⟨x0, y0, x1, y1⟩ := s
      have m1 := mn_le x0 ((n % W : Nat) : Int)
      have m2 := mn_le y0 ((n / W : Nat) : Int)
      have m3 := mx_ge x1 (((n % W : Nat) : Int) + 1)
      have m4 := mx_ge y1 (((n / W : Nat) : Int) + 1)
      simp only
      generalize mn x0 ((n % W : Nat) : Int) = A at *
      generalize mn y0 ((n / W : Nat) : Int) = B at *
      generalize mx x1 (((n % W : Nat) : Int) + 1) = C at *
      generalize mx y1 (((n / W : Nat) : Int) + 1) = D at *
      rcases i with ⟨i1, i2⟩ | ⟨i1, ⟨a, a1, a2, a3⟩, ⟨b, b1, b2, b3⟩, ⟨c, c1, c2, c3⟩, ⟨d, d1, d2, d3⟩⟩
      · simp only [Prod.mk.injEq] at i1
        obtain ⟨j1, j2, j3, j4⟩ := i1
        have t1 : ((n % W : Nat) : Int) < (W : Int) := by omega
        have t2 : ((n / W : Nat) : Int) < (H : Int) := by omega
        have t3 : 0 ≤ ((n % W : Nat) : Int) := Int.natCast_nonneg _
        have t4 : 0 ≤ ((n / W : Nat) : Int) := Int.natCast_nonneg _
        refine ⟨fun k hk hk' => ?_, ⟨n, by omega, hz, ?_⟩, ⟨n, by omega, hz, ?_⟩, ⟨n, by omega, hz, ?_⟩, ⟨n, by omega, hz, ?_⟩⟩
        · by_cases e : k = n
          · rw [e]
            generalize ((n % W : Nat) : Int) = u at *
            generalize ((n / W : Nat) : Int) = v at *
            omega
          · exact absurd (i2 k (by omega)) hk'
        all_goals
          generalize ((n % W : Nat) : Int) = u at *
          generalize ((n / W : Nat) : Int) = v at *
          omega
      · simp only at i1 a3 b3 c3 d3
        refine ⟨fun k hk hk' => ?_, ?_, ?_, ?_, ?_⟩
        · by_cases e : k = n
          · rw [e]
            generalize ((n % W : Nat) : Int) = u at *
            generalize ((n / W : Nat) : Int) = v at *
            omega
          · have := i1 k (by omega) hk'
            generalize ((k % W : Nat) : Int) = u' at *
            generalize ((k / W : Nat) : Int) = v' at *
            generalize ((n % W : Nat) : Int) = u at *
            generalize ((n / W : Nat) : Int) = v at *
            omega
        · rcases m1.2.2 with e | e
          · exact ⟨a, by omega, a2, by rw [e]; exact a3⟩
          · exact ⟨n, by omega, hz, e.symm⟩
        · rcases m2.2.2 with e | e
          · exact ⟨b, by omega, b2, by rw [e]; exact b3⟩
          · exact ⟨n, by omega, hz, e.symm⟩
        · rcases m3.2.2 with e | e
          · exact ⟨c, by omega, c2, by rw [e]; exact c3⟩
          · exact ⟨n, by omega, hz, e.symm⟩
        · rcases m4.2.2 with e | e
          · exact ⟨d, by omega, d2, by rw [e]; exact d3⟩
          · exact ⟨n, by omega, hz, e.symm⟩
section
variable {W H : Nat} (hW : W ≤ 256) (hH : H ≤ 256) {l : List S26} (hl : l.length = W * H) {X Y BW BH : Int} (hX : 0 ≤ X) (hY : 0 ≤ Y) (hBW : 0 ≤ BW) (hBH : 0 ≤ BH) (hXW : X + BW ≤ W) (hYH : Y + BH ≤ H)
  (hin : ∀ k, k < l.length → (rd_T26 l (k : Int)).f3 ≠ 0 → X ≤ ((k % W : Nat) : Int) ∧ ((k % W : Nat) : Int) < X + BW ∧ Y ≤ ((k / W : Nat) : Int) ∧ ((k / W : Nat) : Int) < Y + BH)
  (hend : (X = 0 ∧ Y = 0 ∧ BW = 0 ∧ BH = 0) ∨ (fl l (fun k => ((k % W : Nat) : Int) == X) l.length = true ∧ fl l (fun k => ((k % W : Nat) : Int) == X + BW - 1) l.length = true ∧ fl l (fun k => ((k / W : Nat) : Int) == Y) l.length = true ∧ fl l (fun k => ((k / W : Nat) : Int) == Y + BH - 1) l.length = true))
include hW hH hl hX hY hBW hBH hXW hYH hin hend
theorem boxesLoop : ∀ (n i : Nat), i + n = l.length → Ev (fun k => imageeditorlaw11_RasterBoxes.l0 k (fl l (fun k => ((k % W : Nat) : Int) == X) i) (fl l (fun k => ((k % W : Nat) : Int) == X + BW - 1) i) (fl l (fun k => ((k / W : Nat) : Int) == Y) i) (fl l (fun k => ((k / W : Nat) : Int) == Y + BH - 1) i) l (l.length : Int) (i : Int) (W : Int) (H : Int) l X Y BW BH) true := by
  have ha := Nat.mul_le_mul hW hH
  intro n
  induction n with
  | zero =>
    intro i hi
    obtain rfl : i = l.length := by omega
    rcases hend with ⟨rfl, rfl, rfl, rfl⟩ | ⟨e1, e2, e3, e4⟩
    · refine .step (f := fun _ => some true) (fun k => ?_) (.now _)
      rw [imageeditorlaw11_RasterBoxes.l0, if_neg (by omega), if_pos (by rfl)]
    · refine .step (f := fun _ => some true) (fun k => ?_) (.now _)
      rw [imageeditorlaw11_RasterBoxes.l0, if_neg (by omega), e1, e2, e3, e4]
      simp
  | succ n ih =>
    intro i hi
    have hW0 : 0 < W := by
      rcases Nat.eq_zero_or_pos W with h | h
      · subst h; rw [Nat.zero_mul] at hl; omega
      · exact h
    have h2 : i / W < H := Nat.div_lt_of_lt_mul (by omega)
    have g1 : (i : Int) < (l.length : Int) := by omega
    have g0 : (0 : Int) ≤ (i : Int) := by omega
    have gW : ¬ ((W : Int) = 0) := by omega
    have b1 : -9223372036854775808 ≤ X + BW - 1 ∧ X + BW ≤ 9223372036854775807 := by omega
    have b2 : -9223372036854775808 ≤ Y + BH - 1 ∧ Y + BH ≤ 9223372036854775807 := by omega
    have e3 : wrap64 ((i : Int) + 1) = ((i + 1 : Nat) : Int) := w1 (by omega)
    have e4 := wXB b1
    have e5 := wXB b2
    have t1 := tmW i W
    have t2 := tdW h2 hH
    have hn := ih (i + 1) (by omega)
    simp only [fl_succ] at hn
    have hi' := hin i (by omega)
    clear ih hin hend
    by_cases hz : (rd_T26 l (i : Int)).f3 = 0
    · simp only [hz, beq_self_eq_true, Bool.not_true, Bool.false_and, Bool.or_false] at hn
      refine .step (fun k => ?_) hn
      rw [imageeditorlaw11_RasterBoxes.l0, if_pos g1, if_pos g0, if_pos g1, if_neg gW, if_pos hz, e3]
    · have hz' : ((rd_T26 l (i : Int)).f3 == 0) = false := by simpa using hz
      simp only [hz', Bool.not_false, Bool.true_and] at hn
      obtain ⟨a1, a2, a3, a4⟩ := hi' hz
      refine .step (fun k => by rw [imageeditorlaw11_RasterBoxes.l0, if_pos g1, if_pos g0, if_pos g1, if_neg gW, if_neg hz, t1, t2, e4.1, e5.1, if_neg (Int.not_lt.2 a1), if_neg (Int.not_le.2 a2), if_neg (Int.not_lt.2 a3), decide_eq_false (Int.not_le.2 a4)]) ?_
      refine .step (fun k => ?_) hn
      rw [imageeditorlaw11_RasterBoxes.j3, if_neg (by simp), e3, e4.1, e4.2, e5.1, e5.2]
      generalize fl l (fun k => ((k % W : Nat) : Int) == X) i = p1
      generalize fl l (fun k => ((k % W : Nat) : Int) == X + BW - 1) i = p2
      generalize fl l (fun k => ((k / W : Nat) : Int) == Y) i = p3
      generalize fl l (fun k => ((k / W : Nat) : Int) == Y + BH - 1) i = p4
      cases p1 <;> cases p2 <;> cases p3 <;> cases p4 <;> simp only [if_true, Bool.false_eq_true, if_false, Bool.true_or, Bool.false_or]
end
theorem full_eq {W H : Nat} (hW : W ≤ 256) (hH : H ≤ 256) {l : List S26} (hl : l.length = W * H) : imageeditorlaw11_full.f (W : Int) (H : Int) l = some true := by
  have ha := Nat.mul_le_mul hW hH
  unfold imageeditorlaw11_full.f
  rw [if_pos (by omega), if_pos (by omega), if_pos (by omega), if_pos (by omega), ← Int.natCast_mul, w64 (by omega) (by omega), hl]
  simp
theorem RasterBoxes : ∀ (a0_0 : Int) (a0_1 : Int) (a0_2 : List S26), ((Lit.int .i64 a0_0).wf = true ∧ (Lit.int .i64 a0_1).wf = true ∧ (a0_2.length ≤ maxLen ∧ ∀ x ∈ a0_2, (Lit.int .i64 x.f0).wf = true ∧ (Lit.int .i64 x.f1).wf = true ∧ (Lit.int .i64 x.f2).wf = true ∧ (Lit.int .i64 x.f3).wf = true)) → ∃ k, imageeditorlaw11_RasterBoxes.f k a0_0 a0_1 a0_2 = some true := by
  intro W H l _
  unfold imageeditorlaw11_RasterBoxes.f
  refine Ev.rounds (awake_eq.bind ?_)
  simp only [if_true]
  refine (check_eq W H l).bind ?_
  have skip : Ev (fun k => imageeditorlaw11_RasterBoxes.j0 k true W H l) true := by
    refine .step (fun k => by rw [imageeditorlaw11_RasterBoxes.j0, if_pos rfl]) ?_
    exact awake_eq.bind (.now _)
  by_cases hc : chk W H l = 0
  case neg => simp only [if_neg hc]; exact skip
  simp only [if_pos hc]
  have hb := box_eq W H l
  unfold boxR at hb
  rw [if_pos hc] at hb
  obtain ⟨hs, hl, _⟩ := chk_ok hc
  obtain ⟨W, H, rfl, rfl, hW, hH, _⟩ := nats hs
  have hl' : l.length = W * H := by rw [← Int.natCast_mul] at hl; omega
  simp only [full_eq hW hH hl', Option.bind_some, Bool.not_true]
  have hv := bx_inv (W := W) (H := H) l l.length (by omega)
  have hp := bx_bp (W := W) (H := H) l l.length (by omega)
  simp only [Int.toNat_natCast] at hb
  generalize bx W H l l.length = s at hv hp hb
  refine .step (fun k => by rw [imageeditorlaw11_RasterBoxes.j0, if_neg (by simp)]) ?_
  refine hb.bind ?_
  obtain ⟨x0, y0, x1, y1⟩ := s
  -- what is left, for a rectangle that fits
  have key : ∀ X Y BW BH : Int, 0 ≤ X → 0 ≤ Y → 0 ≤ BW → 0 ≤ BH → X + BW ≤ W → Y + BH ≤ H →
      (∀ k, k < l.length → (rd_T26 l (k : Int)).f3 ≠ 0 → X ≤ ((k % W : Nat) : Int) ∧ ((k % W : Nat) : Int) < X + BW ∧ Y ≤ ((k / W : Nat) : Int) ∧ ((k / W : Nat) : Int) < Y + BH) →
      ((X = 0 ∧ Y = 0 ∧ BW = 0 ∧ BH = 0) ∨ (fl l (fun k => ((k % W : Nat) : Int) == X) l.length = true ∧ fl l (fun k => ((k % W : Nat) : Int) == X + BW - 1) l.length = true ∧ fl l (fun k => ((k / W : Nat) : Int) == Y) l.length = true ∧ fl l (fun k => ((k / W : Nat) : Int) == Y + BH - 1) l.length = true)) →
      Ev (fun k => if X < 0 then (imageeditorlaw11_RasterBoxes.j1 k true (W : Int) (H : Int) l X Y BW BH) else (if Y < 0 then (imageeditorlaw11_RasterBoxes.j1 k true (W : Int) (H : Int) l X Y BW BH) else (if BW < 0 then (imageeditorlaw11_RasterBoxes.j1 k true (W : Int) (H : Int) l X Y BW BH) else (if BH < 0 then (imageeditorlaw11_RasterBoxes.j1 k true (W : Int) (H : Int) l X Y BW BH) else (if BW > (W : Int) then (imageeditorlaw11_RasterBoxes.j1 k true (W : Int) (H : Int) l X Y BW BH) else (if BH > (H : Int) then (imageeditorlaw11_RasterBoxes.j1 k true (W : Int) (H : Int) l X Y BW BH) else (if X > (wrap64 ((W : Int) - BW)) then (imageeditorlaw11_RasterBoxes.j1 k true (W : Int) (H : Int) l X Y BW BH) else (imageeditorlaw11_RasterBoxes.j1 k (decide (Y > (wrap64 ((H : Int) - BH)))) (W : Int) (H : Int) l X Y BW BH)))))))) true := by
    intro X Y BW BH h1 h2 h3 h4 h5 h6 h7 h8
    have e1 : wrap64 ((W : Int) - BW) = (W : Int) - BW := w64 (by omega) (by omega)
    have e2 : wrap64 ((H : Int) - BH) = (H : Int) - BH := w64 (by omega) (by omega)
    simp only [e1, e2, if_neg (show ¬ X < 0 by omega), if_neg (show ¬ Y < 0 by omega), if_neg (show ¬ BW < 0 by omega), if_neg (show ¬ BH < 0 by omega), if_neg (show ¬ BW > (W : Int) by omega), if_neg (show ¬ BH > (H : Int) by omega), if_neg (show ¬ X > (W : Int) - BW by omega), decide_eq_false (show ¬ Y > (H : Int) - BH by omega)]
    refine .step (fun k => by rw [imageeditorlaw11_RasterBoxes.j1, if_neg (by simp)]) ?_
    exact boxesLoop hW hH hl' h1 h2 h3 h4 h5 h6 h7 h8 l.length 0 (by omega)
  have skip1 := skip
  clear skip hb
  rcases hp with ⟨e, hz⟩ | ⟨hin, ⟨a, a1, a2, a3⟩, ⟨b, b1, b2, b3⟩, ⟨c, c1, c2, c3⟩, ⟨d, d1, d2, d3⟩⟩
  · have er : rectOf (x0, y0, x1, y1) = (0, 0, 0, 0) := by rw [e]; exact if_pos (show (W : Int) ≥ 0 by omega)
    rw [er]
    exact key 0 0 0 0 (by omega) (by omega) (by omega) (by omega) (by omega) (by omega) (fun k hk h => absurd (hz k hk) h) (.inl ⟨rfl, rfl, rfl, rfl⟩)
  · rcases hv with e | hv
    · simp only [Prod.mk.injEq] at e
      have := hin a a1 a2
      have := Nat.mod_lt a (show 0 < W by
        rcases Nat.eq_zero_or_pos W with h | h
        · subst h; rw [Nat.zero_mul] at hl'; omega
        · exact h)
      omega
    · simp only at hv hin a3 b3 c3 d3
      have er : rectOf (x0, y0, x1, y1) = (x0, y0, x1 - x0, y1 - y0) := if_neg (show ¬ x0 ≥ x1 by omega)
      rw [er]
      refine key x0 y0 (x1 - x0) (y1 - y0) (by omega) (by omega) (by omega) (by omega) (by omega) (by omega) (fun k hk h => ?_) (.inr ⟨fl_of ⟨a, a1, a2, ?_⟩, fl_of ⟨c, c1, c2, ?_⟩, fl_of ⟨b, b1, b2, ?_⟩, fl_of ⟨d, d1, d2, ?_⟩⟩)
      · have := hin k hk h
        generalize ((k % W : Nat) : Int) = u at *
        generalize ((k / W : Nat) : Int) = v at *
        omega
      · rw [beq_iff_eq]; exact a3
      · rw [beq_iff_eq]; generalize ((c % W : Nat) : Int) = u at *; omega
      · rw [beq_iff_eq]; exact b3
      · rw [beq_iff_eq]; generalize ((d / W : Nat) : Int) = u at *; omega
end Go.Proofs.Ytjepbimgddgijaa.Pure
