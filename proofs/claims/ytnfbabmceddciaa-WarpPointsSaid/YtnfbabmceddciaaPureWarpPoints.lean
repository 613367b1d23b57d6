/- WarpPoints in plain words: at a point of the mesh the displacement is that of the point, and no displacement is greater than Reach. For every mesh and coordinates. -/
import Derived.Test.YtnfbabmceddciaaPMeshAtP
import Derived.Test.YtnfbabmceddciaaG13
import Derived.Test.YtnfbabmceddciaaG24
namespace Go.Proofs.Ytnfbabmceddciaa.Pure
open Go.RowKit Go.Proofs.YtnfbabmceddciaaW.PrintWords Go.Proofs.YtnfbabmceddciaaW.PrintLast Go.Proofs.YtnfbabmceddciaaW.PrintMore Go.Proofs.Ytnfbabmceddciaa.G
set_option linter.unusedVariables false
set_option linter.unusedSimpArgs false

theorem awake_eq : Ev (fun k => imageeditorlaw15_awake.f k) true := .of imageeditorlaw15_awake.mono imageeditorlaw15_awake.known
theorem divR_b {a b M : Int} (hb : 0 < b) (h1 : -(M * b) ≤ a) (h2 : a ≤ M * b) : -M ≤ divR a b ∧ divR a b ≤ M := by
  have q1 : -M ≤ a / b := Int.le_ediv_of_mul_le hb (by rw [Int.neg_mul]; exact h1)
  have q2 : a / b ≤ M := Int.ediv_le_of_le_mul hb h2
  have e := Int.mul_ediv_add_emod a b
  have m1 := Int.emod_nonneg a (show b ≠ 0 by omega)
  unfold divR
  by_cases h : a / b = M
  · rw [h, Int.mul_comm b M] at e
    rw [if_neg (by omega)]
    omega
  · split <;> omega
theorem divR_exact {b d : Int} (hb : 0 < b) : divR (b * d) b = d := by
  unfold divR
  rw [Int.mul_emod_right, if_neg (by omega), Int.mul_ediv_cancel_left _ (by omega)]
theorem mix_b {s f g a b c d M : Int} (hf : 0 ≤ f) (hf' : f ≤ s) (hg : 0 ≤ g) (hg' : g ≤ s) (ha : -M ≤ a ∧ a ≤ M) (hb : -M ≤ b ∧ b ≤ M) (hc : -M ≤ c ∧ c ≤ M) (hd : -M ≤ d ∧ d ≤ M) : -(M * (s * s)) ≤ mixV s f g a b c d ∧ mixV s f g a b c d ≤ M * (s * s) := by
  have w1 := Int.mul_nonneg (show 0 ≤ s - f by omega) (show 0 ≤ s - g by omega)
  have w2 := Int.mul_nonneg hf (show 0 ≤ s - g by omega)
  have w3 := Int.mul_nonneg (show 0 ≤ s - f by omega) hg
  have w4 := Int.mul_nonneg hf hg
  have sum : (s - f) * (s - g) + f * (s - g) + ((s - f) * g + f * g) = s * s := by
    rw [← Int.add_mul, ← Int.add_mul, show s - f + f = s by omega, ← Int.mul_add, show s - g + g = s by omega]
  have t : ∀ w v : Int, 0 ≤ w → -M ≤ v ∧ v ≤ M → -(w * M) ≤ w * v ∧ w * v ≤ w * M := fun w v h0 hv => ⟨by have := Int.mul_le_mul_of_nonneg_left hv.1 h0; rw [Int.mul_neg] at this; exact this, Int.mul_le_mul_of_nonneg_left hv.2 h0⟩
  have t1 := t _ a w1 ha
  have t2 := t _ b w2 hb
  have t3 := t _ c w3 hc
  have t4 := t _ d w4 hd
  have total : (s - f) * (s - g) * M + f * (s - g) * M + ((s - f) * g * M + f * g * M) = M * (s * s) := by
    rw [← sum, Int.mul_comm M, Int.add_mul, Int.add_mul ((s - f) * (s - g)), Int.add_mul ((s - f) * g)]
  unfold mixV
  rw [← total]
  omega
theorem mst_ge : ∀ (l : List S28) (m : Int), m ≤ mst l m ∧ ∀ p ∈ l, p.f0 ≤ mst l m ∧ -p.f0 ≤ mst l m ∧ p.f1 ≤ mst l m ∧ -p.f1 ≤ mst l m := by
  intro l
  induction l with
  | nil => intro m; exact ⟨Int.le_refl _, fun p hp => by simp at hp⟩
  | cons q l ih =>
    intro m
    obtain ⟨a, b⟩ := ih (up1 m q)
    have u : m ≤ up1 m q ∧ q.f0 ≤ up1 m q ∧ -q.f0 ≤ up1 m q ∧ q.f1 ≤ up1 m q ∧ -q.f1 ≤ up1 m q := by
      have g : ∀ x y : Int, x ≤ mx x y ∧ y ≤ mx x y := fun x y => by unfold mx; split <;> omega
      have g1 := g m q.f0
      have g2 := g (mx m q.f0) (-q.f0)
      have g3 := g (mx (mx m q.f0) (-q.f0)) q.f1
      have g4 := g (mx (mx (mx m q.f0) (-q.f0)) q.f1) (-q.f1)
      unfold up1
      omega
    refine ⟨show m ≤ mst l (up1 m q) by omega, fun p hp => ?_⟩
    show p.f0 ≤ mst l (up1 m q) ∧ -p.f0 ≤ mst l (up1 m q) ∧ p.f1 ≤ mst l (up1 m q) ∧ -p.f1 ≤ mst l (up1 m q)
    rcases List.mem_cons.1 hp with rfl | hp
    · omega
    · exact b p hp
section
variable {c r s : Int} {D : List S28} (h : chkW c r s D = 0)
include h
theorem atV_b (x y : Int) : (-(mst D 0) ≤ atV c r s D x y (·.f0) ∧ atV c r s D x y (·.f0) ≤ mst D 0) ∧ (-(mst D 0) ≤ atV c r s D x y (·.f1) ∧ atV c r s D x y (·.f1) ≤ mst D 0) := by
  obtain ⟨⟨h1, h2, h3, h4, h5, h6, h7⟩, hD⟩ := chkW_ok h
  obtain ⟨_, _, _, _, a1, a2, a3, a4, _⟩ := cell_b (x := x) h1 h2 h5 h6
  obtain ⟨_, _, _, _, b1, b2, b3, b4, _⟩ := cell_b (x := y) h3 h4 h5 h6
  obtain ⟨i1, i2, i3, i4⟩ := idx_b h1 h2 h3 h4 a1 a2 b1 b2
  obtain ⟨_, hm⟩ := mst_ge D 0
  have at_ : ∀ i : Int, 0 ≤ i → i < D.length → (-(mst D 0) ≤ (rd_T28 D i).f0 ∧ (rd_T28 D i).f0 ≤ mst D 0) ∧ (-(mst D 0) ≤ (rd_T28 D i).f1 ∧ (rd_T28 D i).f1 ≤ mst D 0) := by
    intro i j0 j1
    obtain ⟨j, rfl⟩ := Int.eq_ofNat_of_zero_le j0
    rw [rd28_get D j (by omega)]
    have := hm _ (List.getElem_mem (show j < D.length by omega))
    omega
  have ss : 0 < s * s := Int.mul_pos (by omega) (by omega)
  unfold atV
  generalize ci x c s = i at *
  generalize ci y r s = j at *
  generalize cf x c s = f at *
  generalize cf y r s = g at *
  have p := at_ (j * c + i) (by omega) (by omega)
  have q := at_ (j * c + i + 1) (by omega) (by omega)
  have t := at_ ((j + 1) * c + i) (by omega) (by omega)
  have u := at_ ((j + 1) * c + i + 1) (by omega) (by omega)
  have m0 := mix_b a3 a4 b3 b4 p.1 q.1 t.1 u.1
  have m1 := mix_b a3 a4 b3 b4 p.2 q.2 t.2 u.2
  exact ⟨divR_b ss m0.1 m0.2, divR_b ss m1.1 m1.2⟩
end
theorem cell_at {i p s : Int} (hp : 2 ≤ p) (hs : 1 ≤ s) (hi : 0 ≤ i) (hi' : i < p) : (i ≤ p - 2 ∧ ci (i * s) p s = i ∧ cf (i * s) p s = 0) ∨ (i = p - 1 ∧ ci (i * s) p s = p - 2 ∧ cf (i * s) p s = s) := by
  have a := Int.mul_nonneg hi (show 0 ≤ s by omega)
  have b := Int.mul_le_mul_of_nonneg_right (show i ≤ p - 1 by omega) (show 0 ≤ s by omega)
  have u : cu (i * s) p s = i * s := by unfold cu mn mx; split <;> split <;> omega
  have d : i * s / s = i := Int.mul_ediv_cancel _ (by omega)
  have c0 : ci (i * s) p s = mn i (p - 2) := by unfold ci; rw [u, d]
  have f0 : cf (i * s) p s = i * s - ci (i * s) p s * s := by unfold cf; rw [u]
  by_cases h : i ≤ p - 2
  · left
    have e : ci (i * s) p s = i := by rw [c0]; unfold mn; rw [if_neg (by omega)]
    refine ⟨h, e, ?_⟩
    rw [f0, e]
    omega
  · right
    have e : ci (i * s) p s = p - 2 := by rw [c0]; unfold mn; rw [if_pos (by omega)]
    refine ⟨by omega, e, ?_⟩
    rw [f0, e, ← Int.sub_mul, show i - (p - 2) = 1 by omega, Int.one_mul]
theorem pt_exact {c r s : Int} {D : List S28} (h : chkW c r s D = 0) {i j : Int} (hi : 0 ≤ i) (hi' : i < c) (hj : 0 ≤ j) (hj' : j < r) (v : S28 → Int) : atV c r s D (i * s) (j * s) v = v (rd_T28 D (j * c + i)) := by
  obtain ⟨⟨h1, h2, h3, h4, h5, h6, h7⟩, hD⟩ := chkW_ok h
  have ss : 0 < s * s := Int.mul_pos (by omega) (by omega)
  unfold atV
  rcases cell_at h1 h5 hi hi' with ⟨x1, x2, x3⟩ | ⟨x1, x2, x3⟩ <;> rcases cell_at h3 h5 hj hj' with ⟨y1, y2, y3⟩ | ⟨y1, y2, y3⟩ <;> rw [x2, x3, y2, y3] <;> simp only [mixV, Int.sub_self, Int.sub_zero, Int.zero_mul, Int.mul_zero, Int.zero_add, Int.add_zero] <;> rw [divR_exact ss]
  · rw [show (r - 2 + 1) * c + i = j * c + i by rw [show r - 2 + 1 = j by omega]]
  · rw [show j * c + (c - 2) + 1 = j * c + i by omega]
  · rw [show (r - 2 + 1) * c + (c - 2) + 1 = j * c + i by rw [show r - 2 + 1 = j by omega]; omega]
theorem WarpPoints : ∀ (a0_0 : Int) (a0_1 : Int) (a0_2 : Int) (a0_3 : List S28) (a1 : Int) (a2 : Int) (a3 : Int) (a4 : Int), ((Lit.int .i64 a0_0).wf = true ∧ (Lit.int .i64 a0_1).wf = true ∧ (Lit.int .i64 a0_2).wf = true ∧ (a0_3.length ≤ maxLen ∧ ∀ x ∈ a0_3, (Lit.int .i64 x.f0).wf = true ∧ (Lit.int .i64 x.f1).wf = true)) → (Lit.int .i64 a1).wf = true → (Lit.int .i64 a2).wf = true → (Lit.int .i64 a3).wf = true → (Lit.int .i64 a4).wf = true → ∃ k, imageeditorlaw15_WarpPoints.f k a0_0 a0_1 a0_2 a0_3 a1 a2 a3 a4 = some true := by
  intro c r s D i j x y _ _ _ _ _
  unfold imageeditorlaw15_WarpPoints.f
  refine Ev.rounds ((wcheck_eq' c r s D).bind ?_)
  by_cases h : chkW c r s D = 0
  case neg =>
    simp only [if_neg h]
    refine .step (fun k => by rw [imageeditorlaw15_WarpPoints.j0, if_pos rfl]) ?_
    exact awake_eq.bind (.now _)
  simp only [if_pos h]
  refine awake_eq.bind ?_
  simp only [Bool.not_true]
  refine .step (fun k => by rw [imageeditorlaw15_WarpPoints.j0, if_neg (by simp)]) ?_
  have ha := At_eq c r s D x y
  rw [if_pos h] at ha
  have hr := reach_eq c r s D
  unfold reachV at hr
  rw [if_pos h] at hr
  obtain ⟨⟨h1, h2, h3, h4, h5, h6, h7⟩, hD⟩ := chkW_ok h
  have hM := mst_b D 0 hD (by omega) (by omega)
  have hb := atV_b h x y
  have last : Ev (fun k => imageeditorlaw15_WarpPoints.j1 k i j false c r s D) true := by
    have done : ∀ {f : Nat → Option Bool}, (∀ k, imageeditorlaw15_WarpPoints.j1 (k + 1) i j false c r s D = f k) → Ev f true → Ev (fun k => imageeditorlaw15_WarpPoints.j1 k i j false c r s D) true := fun e hE => .step e hE
    by_cases c1 : i < 0
    · exact .step (f := fun _ => some true) (fun k => by rw [imageeditorlaw15_WarpPoints.j1, if_neg (by simp), if_pos c1]) (.now _)
    by_cases c2 : i ≥ c
    · exact .step (f := fun _ => some true) (fun k => by rw [imageeditorlaw15_WarpPoints.j1, if_neg (by simp), if_neg c1, if_pos c2]) (.now _)
    by_cases c3 : j < 0
    · exact .step (f := fun _ => some true) (fun k => by rw [imageeditorlaw15_WarpPoints.j1, if_neg (by simp), if_neg c1, if_neg c2, if_pos c3]) (.now _)
    by_cases c4 : j ≥ r
    · exact .step (f := fun _ => some true) (fun k => by rw [imageeditorlaw15_WarpPoints.j1, if_neg (by simp), if_neg c1, if_neg c2, if_neg c3, if_pos c4]) (.now _)
    have m1 := Int.mul_nonneg (show 0 ≤ i by omega) (show 0 ≤ s by omega)
    have m2 := Int.mul_le_mul (show i ≤ 8 by omega) h6 (show 0 ≤ s by omega) (by omega : (0 : Int) ≤ 8)
    have m3 := Int.mul_nonneg (show 0 ≤ j by omega) (show 0 ≤ s by omega)
    have m4 := Int.mul_le_mul (show j ≤ 8 by omega) h6 (show 0 ≤ s by omega) (by omega : (0 : Int) ≤ 8)
    have m5 := Int.mul_nonneg (show 0 ≤ j by omega) (show 0 ≤ c by omega)
    have m6 := Int.mul_le_mul_of_nonneg_right (show j + 1 ≤ r by omega) (show 0 ≤ c by omega)
    rw [Int.add_mul, Int.one_mul, Int.mul_comm r c] at m6
    have m7 := mul_b (c := c) (r := r) (by omega) (by omega) (by omega) (by omega)
    have hx := At_eq c r s D (i * s) (j * s)
    rw [if_pos h, pt_exact h (by omega) (by omega) (by omega) (by omega), pt_exact h (by omega) (by omega) (by omega) (by omega)] at hx
    have w1 : wrap64 (i * s) = i * s := w64 (by omega) (by omega)
    have w2 : wrap64 (j * s) = j * s := w64 (by omega) (by omega)
    have w3 : wrap64 ((wrap64 (j * c)) + i) = j * c + i := by rw [w64 (x := j * c) (by omega) (by omega), w64 (by omega) (by omega)]
    refine .step (fun k => by rw [imageeditorlaw15_WarpPoints.j1, if_neg (by simp), if_neg c1, if_neg c2, if_neg c3, if_neg c4, w1, w2, w3]) ?_
    refine hx.bind ?_
    simp only [if_pos (show 0 ≤ j * c + i by omega), if_pos (show j * c + i < (D.length : Int) by omega), beq_self_eq_true, Bool.and_self]
    exact .now _
  refine ha.bind (hr.bind ?_)
  generalize mst D 0 = M at *
  generalize atV c r s D x y (·.f0) = X at *
  generalize atV c r s D x y (·.f1) = Y at *
  have q1 : 0 ≤ (M + 65535) / 65536 ∧ (M + 65535) / 65536 ≤ 16 ∧ M ≤ (M + 65535) / 65536 * 65536 := by omega
  generalize (M + 65535) / 65536 = n at *
  have w1 : wrap64 (n * 65536) = n * 65536 := w64 (by omega) (by omega)
  have w2 : wrap64 ((wrap64 (-n)) * 65536) = -n * 65536 := by rw [w64 (x := -n) (by omega) (by omega), w64 (by omega) (by omega)]
  simp only [w1, w2, if_neg (show ¬ n < 0 by omega), if_neg (show ¬ n > 16 by omega), if_neg (show ¬ X > n * 65536 by omega), if_neg (show ¬ X < -n * 65536 by omega), if_neg (show ¬ Y > n * 65536 by omega), decide_eq_false (show ¬ Y < -n * 65536 by omega)]
  exact last
end Go.Proofs.Ytnfbabmceddciaa.Pure
