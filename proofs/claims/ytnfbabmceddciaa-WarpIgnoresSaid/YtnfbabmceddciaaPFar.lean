/- How far a pixel's taps reach: within what Needs gives. -/
import Derived.Test.YtnfbabmceddciaaPNeed
namespace Go.Proofs.Ytnfbabmceddciaa.Pure
open Go.RowKit Go.Proofs.YtnfbabmceddciaaW.PrintWords Go.Proofs.YtnfbabmceddciaaW.PrintLast Go.Proofs.YtnfbabmceddciaaW.PrintMore Go.Proofs.Ytnfbabmceddciaa.G
set_option linter.unusedVariables false
set_option linter.unusedSimpArgs false

theorem divR_b {a b M : Int} (hb : 0 < b) (h1 : -(M * b) ≤ a) (h2 : a ≤ M * b) : -M ≤ divR a b ∧ divR a b ≤ M := by
  have q1 : -M ≤ a / b := Int.le_ediv_of_mul_le hb (by rw [Int.neg_mul]; exact h1)
  have q2 : a / b ≤ M := Int.ediv_le_of_le_mul hb h2
  have e := Int.mul_ediv_add_emod a b
  have m1 := Int.emod_nonneg a (show b ≠ 0 by omega)
  unfold divR
  by_cases h : a / b = M
  · rw [h, Int.mul_comm b M] at e
    rw [if_neg (by omega)]
    omega
  · split <;> omega
theorem divR_exact {b d : Int} (hb : 0 < b) : divR (b * d) b = d := by
  unfold divR
  rw [Int.mul_emod_right, if_neg (by omega), Int.mul_ediv_cancel_left _ (by omega)]
theorem mix_b {s f g a b c d M : Int} (hf : 0 ≤ f) (hf' : f ≤ s) (hg : 0 ≤ g) (hg' : g ≤ s) (ha : -M ≤ a ∧ a ≤ M) (hb : -M ≤ b ∧ b ≤ M) (hc : -M ≤ c ∧ c ≤ M) (hd : -M ≤ d ∧ d ≤ M) : -(M * (s * s)) ≤ mixV s f g a b c d ∧ mixV s f g a b c d ≤ M * (s * s) := by
  have w1 := Int.mul_nonneg (show 0 ≤ s - f by omega) (show 0 ≤ s - g by omega)
  have w2 := Int.mul_nonneg hf (show 0 ≤ s - g by omega)
  have w3 := Int.mul_nonneg (show 0 ≤ s - f by omega) hg
  have w4 := Int.mul_nonneg hf hg
  have sum : (s - f) * (s - g) + f * (s - g) + ((s - f) * g + f * g) = s * s := by
    rw [← Int.add_mul, ← Int.add_mul, show s - f + f = s by omega, ← Int.mul_add, show s - g + g = s by omega]
  have t : ∀ w v : Int, 0 ≤ w → -M ≤ v ∧ v ≤ M → -(w * M) ≤ w * v ∧ w * v ≤ w * M := fun w v h0 hv => ⟨by have := Int.mul_le_mul_of_nonneg_left hv.1 h0; rw [Int.mul_neg] at this; exact this, Int.mul_le_mul_of_nonneg_left hv.2 h0⟩
  have t1 := t _ a w1 ha
  have t2 := t _ b w2 hb
  have t3 := t _ c w3 hc
  have t4 := t _ d w4 hd
  have total : (s - f) * (s - g) * M + f * (s - g) * M + ((s - f) * g * M + f * g * M) = M * (s * s) := by
    rw [← sum, Int.mul_comm M, Int.add_mul, Int.add_mul ((s - f) * (s - g)), Int.add_mul ((s - f) * g)]
  unfold mixV
  rw [← total]
  omega
theorem mst_ge : ∀ (l : List S28) (m : Int), m ≤ mst l m ∧ ∀ p ∈ l, p.f0 ≤ mst l m ∧ -p.f0 ≤ mst l m ∧ p.f1 ≤ mst l m ∧ -p.f1 ≤ mst l m := by
  intro l
  induction l with
  | nil => intro m; exact ⟨Int.le_refl _, fun p hp => by simp at hp⟩
  | cons q l ih =>
    intro m
    obtain ⟨a, b⟩ := ih (up1 m q)
    have u : m ≤ up1 m q ∧ q.f0 ≤ up1 m q ∧ -q.f0 ≤ up1 m q ∧ q.f1 ≤ up1 m q ∧ -q.f1 ≤ up1 m q := by
      have g : ∀ x y : Int, x ≤ mx x y ∧ y ≤ mx x y := fun x y => by unfold mx; split <;> omega
      have g1 := g m q.f0
      have g2 := g (mx m q.f0) (-q.f0)
      have g3 := g (mx (mx m q.f0) (-q.f0)) q.f1
      have g4 := g (mx (mx (mx m q.f0) (-q.f0)) q.f1) (-q.f1)
      unfold up1
      omega
    refine ⟨show m ≤ mst l (up1 m q) by omega, fun p hp => ?_⟩
    show p.f0 ≤ mst l (up1 m q) ∧ -p.f0 ≤ mst l (up1 m q) ∧ p.f1 ≤ mst l (up1 m q) ∧ -p.f1 ≤ mst l (up1 m q)
    rcases List.mem_cons.1 hp with rfl | hp
    · omega
    · exact b p hp
section
variable {c r s : Int} {D : List S28} (h : chkW c r s D = 0)
include h
theorem atV_b (x y : Int) : (-(mst D 0) ≤ atV c r s D x y (·.f0) ∧ atV c r s D x y (·.f0) ≤ mst D 0) ∧ (-(mst D 0) ≤ atV c r s D x y (·.f1) ∧ atV c r s D x y (·.f1) ≤ mst D 0) := by
  obtain ⟨⟨h1, h2, h3, h4, h5, h6, h7⟩, hD⟩ := chkW_ok h
  obtain ⟨_, _, _, _, a1, a2, a3, a4, _⟩ := cell_b (x := x) h1 h2 h5 h6
  obtain ⟨_, _, _, _, b1, b2, b3, b4, _⟩ := cell_b (x := y) h3 h4 h5 h6
  obtain ⟨i1, i2, i3, i4⟩ := idx_b h1 h2 h3 h4 a1 a2 b1 b2
  obtain ⟨_, hm⟩ := mst_ge D 0
  have at_ : ∀ i : Int, 0 ≤ i → i < D.length → (-(mst D 0) ≤ (rd_T28 D i).f0 ∧ (rd_T28 D i).f0 ≤ mst D 0) ∧ (-(mst D 0) ≤ (rd_T28 D i).f1 ∧ (rd_T28 D i).f1 ≤ mst D 0) := by
    intro i j0 j1
    obtain ⟨j, rfl⟩ := Int.eq_ofNat_of_zero_le j0
    rw [rd28_get D j (by omega)]
    have := hm _ (List.getElem_mem (show j < D.length by omega))
    omega
  have ss : 0 < s * s := Int.mul_pos (by omega) (by omega)
  unfold atV
  generalize ci x c s = i at *
  generalize ci y r s = j at *
  generalize cf x c s = f at *
  generalize cf y r s = g at *
  have p := at_ (j * c + i) (by omega) (by omega)
  have q := at_ (j * c + i + 1) (by omega) (by omega)
  have t := at_ ((j + 1) * c + i) (by omega) (by omega)
  have u := at_ ((j + 1) * c + i + 1) (by omega) (by omega)
  have m0 := mix_b a3 a4 b3 b4 p.1 q.1 t.1 u.1
  have m1 := mix_b a3 a4 b3 b4 p.2 q.2 t.2 u.2
  exact ⟨divR_b ss m0.1 m0.2, divR_b ss m1.1 m1.2⟩
end
theorem atV_r {c r s : Int} {D : List S28} (h : chkW c r s D = 0) (x y : Int) : (-(reachV c r s D * 65536) ≤ atV c r s D x y (·.f0) ∧ atV c r s D x y (·.f0) ≤ reachV c r s D * 65536) ∧ (-(reachV c r s D * 65536) ≤ atV c r s D x y (·.f1) ∧ atV c r s D x y (·.f1) ≤ reachV c r s D * 65536) := by
  have b := atV_b h x y
  unfold reachV
  rw [if_pos h]
  omega
theorem posV_id {v : Int} (h : -1099511627776 ≤ v) (h' : v ≤ 1099511627776) : posV v = v := by unfold posV mn mx; split <;> split <;> omega
/-- How far a pixel's taps reach. -/
theorem tap_far {kd n d x i : Int} {T : Int × List Int} (hx : -2000000 ≤ x ∧ x ≤ 2000000) (hn : 0 ≤ n ∧ n ≤ 16) (hd : -(n * 65536) ≤ d ∧ d ≤ n * 65536) (hT : tapsOk kd (wrap64 ((wrap64 ((wrap64 (x * 65536)) + 32768)) + d)) T) (hi : 0 ≤ i) (hi' : i < T.2.length) : wrap64 (T.1 + i) = T.1 + i ∧ x - (n + supV kd + 1) ≤ T.1 + i ∧ T.1 + i < x + 1 + (n + supV kd + 1) := by
  have sb := supV_b kd
  rw [w64 (x := x * 65536) (by omega) (by omega), w64 (x := x * 65536 + 32768) (by omega) (by omega), w64 (x := x * 65536 + 32768 + d) (by omega) (by omega)] at hT
  obtain ⟨_, h1, h2, h3, h4⟩ := hT
  rw [posV_id (by omega) (by omega)] at h3 h4
  generalize supV kd = s at *
  have q1 : x - (n + s + 1) ≤ T.1 := by omega
  have q2 : T.1 + (T.2.length : Int) - 1 < x + (n + s) := by omega
  refine ⟨w64 (by omega) (by omega), by omega, by omega⟩
/-- A place near a part, limited to the bounds, lies in what the part needs. -/
theorem need_in {o w X W n a : Int} (h1 : X ≤ o) (h2 : o + w ≤ X + W) (h3 : 0 < w) (h4 : -1048576 ≤ X) (h5 : X + W ≤ 1048576) (hn : 0 ≤ n) (ha : o - n ≤ a) (ha' : a < o + w + n) : loV o n X ≤ cw a X W ∧ cw a X W < hiV o w n X W := by
  unfold loV hiV g0 g1 cw mx mn
  constructor
  · split <;> split <;> split <;> split <;> omega
  · split <;> split <;> split <;> split <;> omega
section
variable {kd c r st : Int} {D : List S28} {F : Int → Int → Int × List Int} {ox oy : Int} {w h : Nat} {X Y W H : Int}
theorem tx_in (hF : ∀ v, tapsOk kd v (F kd v)) (hn : needOk c r st D kd ox oy (w : Int) (h : Int) X Y W H) {u v i : Nat} (hu : u < w) (hi : i < (txV kd c r st D F (ox + u) (oy + v)).2.length) :
    loV ox (padV c r st D kd) X ≤ cw (wrap64 ((txV kd c r st D F (ox + u) (oy + v)).1 + i)) X W ∧ cw (wrap64 ((txV kd c r st D F (ox + u) (oy + v)).1 + i)) X W < hiV ox w (padV c r st D kd) X W := by
  obtain ⟨f1, f2, f3, f4, f5⟩ := need_f hn
  have rb := reachV_b hn.1
  have sb := supV_b kd
  have ab := atV_r hn.1 (ox + u) (oy + v)
  have t := tap_far (x := ox + u) (by omega) rb ab.1 (hF _) (Int.natCast_nonneg i) (Int.ofNat_lt.2 hi)
  have t1 : wrap64 ((txV kd c r st D F (ox + u) (oy + v)).1 + i) = (txV kd c r st D F (ox + u) (oy + v)).1 + i := t.1
  have t2 : ox + u - padV c r st D kd ≤ (txV kd c r st D F (ox + u) (oy + v)).1 + i := t.2.1
  have t3 : (txV kd c r st D F (ox + u) (oy + v)).1 + i < ox + u + 1 + padV c r st D kd := t.2.2
  rw [t1]
  exact need_in (by omega) (by omega) (by omega) (by omega) (by omega) (by have := padV_b hn.1 kd; omega) (by omega) (by omega)
theorem ty_in (hF : ∀ v, tapsOk kd v (F kd v)) (hn : needOk c r st D kd ox oy (w : Int) (h : Int) X Y W H) {u v i : Nat} (hv : v < h) (hi : i < (tyV kd c r st D F (ox + u) (oy + v)).2.length) :
    loV oy (padV c r st D kd) Y ≤ cw (wrap64 ((tyV kd c r st D F (ox + u) (oy + v)).1 + i)) Y H ∧ cw (wrap64 ((tyV kd c r st D F (ox + u) (oy + v)).1 + i)) Y H < hiV oy h (padV c r st D kd) Y H := by
  obtain ⟨f1, f2, f3, f4, f5⟩ := need_f hn
  have rb := reachV_b hn.1
  have sb := supV_b kd
  have ab := atV_r hn.1 (ox + u) (oy + v)
  have t := tap_far (x := oy + v) (by omega) rb ab.2 (hF _) (Int.natCast_nonneg i) (Int.ofNat_lt.2 hi)
  have t1 : wrap64 ((tyV kd c r st D F (ox + u) (oy + v)).1 + i) = (tyV kd c r st D F (ox + u) (oy + v)).1 + i := t.1
  have t2 : oy + v - padV c r st D kd ≤ (tyV kd c r st D F (ox + u) (oy + v)).1 + i := t.2.1
  have t3 : (tyV kd c r st D F (ox + u) (oy + v)).1 + i < oy + v + 1 + padV c r st D kd := t.2.2
  rw [t1]
  exact need_in (by omega) (by omega) (by omega) (by omega) (by omega) (by have := padV_b hn.1 kd; omega) (by omega) (by omega)
end
end Go.Proofs.Ytnfbabmceddciaa.Pure
