/- Meshes: At and Reach, of the program and of the specification, compute the same. No conditions. -/
import Derived.Test.YtnfbabmceddciaaPMeshP
import Derived.Test.YtnfbabmceddciaaG1
import Derived.Test.YtnfbabmceddciaaG3
import Derived.Test.YtnfbabmceddciaaG4
namespace Go.Proofs.Ytnfbabmceddciaa.Pure
open Go.RowKit Go.Proofs.YtnfbabmceddciaaW.PrintWords Go.Proofs.YtnfbabmceddciaaW.PrintLast Go.Proofs.YtnfbabmceddciaaW.PrintMore Go.Proofs.Ytnfbabmceddciaa.G
set_option linter.unusedVariables false
set_option linter.unusedSimpArgs false

theorem mn_comm (a b : Int) : mn a b = mn b a := by unfold mn; split <;> split <;> omega
theorem idx_b {c r i j : Int} (hc : 2 ≤ c) (hc' : c ≤ 8) (hr : 2 ≤ r) (hr' : r ≤ 8) (hi : 0 ≤ i) (hi' : i ≤ c - 2) (hj : 0 ≤ j) (hj' : j ≤ r - 2) :
    0 ≤ j * c ∧ j * c ≤ 64 ∧ (j + 1) * c = j * c + c ∧ j * c + c + c ≤ c * r := by
  have a := Int.mul_nonneg hj (show 0 ≤ c by omega)
  have b := Int.mul_le_mul_of_nonneg_right (show j + 2 ≤ r by omega) (show 0 ≤ c by omega)
  have d : (j + 1) * c = j * c + c := by rw [Int.add_mul, Int.one_mul]
  have e : (j + 2) * c = j * c + c + c := by rw [Int.add_mul]; omega
  have m := mul_b (c := c) (r := r) (by omega) (by omega) (by omega) (by omega)
  rw [Int.mul_comm r c] at b
  omega
theorem idx_w {c r i j : Int} (hc : 2 ≤ c) (hc' : c ≤ 8) (hr : 2 ≤ r) (hr' : r ≤ 8) (hi : 0 ≤ i) (hi' : i ≤ c - 2) (hj : 0 ≤ j) (hj' : j ≤ r - 2) :
    wrap64 ((wrap64 (j * c)) + i) = j * c + i ∧ wrap64 (j * c + i + 1) = j * c + i + 1 ∧ wrap64 ((wrap64 ((wrap64 (j + 1)) * c)) + i) = (j + 1) * c + i ∧ wrap64 ((j + 1) * c + i + 1) = (j + 1) * c + i + 1 := by
  obtain ⟨a, b, d, e⟩ := idx_b hc hc' hr hr' hi hi' hj hj'
  have m := mul_b (c := c) (r := r) (by omega) (by omega) (by omega) (by omega)
  rw [w64 (x := j + 1) (by omega) (by omega), w64 (x := j * c) (by omega) (by omega), w64 (x := (j + 1) * c) (by omega) (by omega)]
  exact ⟨w64 (by omega) (by omega), w64 (by omega) (by omega), w64 (by omega) (by omega), w64 (by omega) (by omega)⟩
theorem at1_eq {n f g a b c d : Int} (hn : 1 ≤ n) (hn' : n ≤ 256) (hf : 0 ≤ f) (hf' : f ≤ n) (hg : 0 ≤ g) (hg' : g ≤ n)
    (ha : -1048576 ≤ a ∧ a ≤ 1048576) (hb : -1048576 ≤ b ∧ b ≤ 1048576) (hc : -1048576 ≤ c ∧ c ≤ 1048576) (hd : -1048576 ≤ d ∧ d ≤ 1048576) :
    Ev (fun k => warp_at_1.f k a b c d n f g) (divR (mixV n f g a b c d) (n * n)) := by
  obtain ⟨m1, ⟨m2, m3⟩, m4, m5, m6⟩ := mix_w hn hn' hf hf' hg hg' ha hb hc hd
  unfold warp_at_1.f
  rw [m1, m4]
  exact (div_eq m5 m6 m2 m3).bind (.now _)
/-- The displacement at a pixel. -/
def atV (c r s : Int) (D : List S28) (x y : Int) (v : S28 → Int) : Int :=
  divR (mixV s (cf x c s) (cf y r s) (v (rd_T28 D (ci y r s * c + ci x c s))) (v (rd_T28 D (ci y r s * c + ci x c s + 1))) (v (rd_T28 D ((ci y r s + 1) * c + ci x c s))) (v (rd_T28 D ((ci y r s + 1) * c + ci x c s + 1)))) (s * s)
section
variable {c r s : Int} {D : List S28} (h : chkW c r s D = 0) (x y : Int)
include h
theorem at_eq : Ev (fun k => warp_at.f k c r s D x y) (atV c r s D x y (·.f0), atV c r s D x y (·.f1)) := by
  obtain ⟨⟨h1, h2, h3, h4, h5, h6, h7⟩, hD⟩ := chkW_ok h
  obtain ⟨_, _, _, _, a1, a2, a3, a4, _⟩ := cell_b (x := x) h1 h2 h5 h6
  obtain ⟨_, _, _, _, b1, b2, b3, b4, _⟩ := cell_b (x := y) h3 h4 h5 h6
  obtain ⟨e1, e2, e3, e4⟩ := idx_w h1 h2 h3 h4 a1 a2 b1 b2
  obtain ⟨i1, i2, i3, i4⟩ := idx_b h1 h2 h3 h4 a1 a2 b1 b2
  unfold warp_at.f atV
  simp only [cell_eq h1 h2 h5 h6, cell_eq h3 h4 h5 h6, Option.bind_some]
  generalize ci x c s = i at *
  generalize ci y r s = j at *
  generalize cf x c s = f at *
  generalize cf y r s = g at *
  simp only [e1, e2, e3, e4]
  have l0 : 0 ≤ j * c + i := by omega
  have l1 : j * c + i < (D.length : Int) := by omega
  have l2 : 0 ≤ j * c + i + 1 := by omega
  have l3 : j * c + i + 1 < (D.length : Int) := by omega
  have l4 : 0 ≤ (j + 1) * c + i := by omega
  have l5 : (j + 1) * c + i < (D.length : Int) := by omega
  have l6 : 0 ≤ (j + 1) * c + i + 1 := by omega
  have l7 : (j + 1) * c + i + 1 < (D.length : Int) := by omega
  simp only [if_pos l0, if_pos l1, if_pos l2, if_pos l3, if_pos l4, if_pos l5, if_pos l6, if_pos l7]
  have p := pt_b hD l0 l1
  have q := pt_b hD l2 l3
  have t := pt_b hD l4 l5
  have u := pt_b hD l6 l7
  exact (at1_eq h5 h6 a3 a4 b3 b4 p.1 q.1 t.1 u.1).bind ((at1_eq h5 h6 a3 a4 b3 b4 p.2 q.2 t.2 u.2).bind (.now _))
end
theorem At_eq (c r s : Int) (D : List S28) (x y : Int) : Ev (fun k => warp_At.f k c r s D x y) (if chkW c r s D = 0 then (atV c r s D x y (·.f0), atV c r s D x y (·.f1)) else (0, 0)) := by
  unfold warp_At.f
  refine (wcheck_eq c r s D).bind ?_
  by_cases h : chkW c r s D = 0
  · simp only [if_pos h]
    exact (at_eq h x y).bind (.now _)
  · simp only [if_neg h]
    exact .now _
def up1 (m : Int) (p : S28) : Int := mx (mx (mx (mx m p.f0) (-p.f0)) p.f1) (-p.f1)
def mst (l : List S28) (m : Int) : Int := l.foldl up1 m
theorem mx_b {a b B : Int} (h1 : 0 ≤ a) (h2 : a ≤ B) (h3 : b ≤ B) : 0 ≤ mx a b ∧ mx a b ≤ B := by unfold mx; split <;> omega
theorem up1_b {m : Int} {p : S28} (h0 : 0 ≤ m) (h1 : m ≤ 1048576) (hp : ptOk p = true) : 0 ≤ up1 m p ∧ up1 m p ≤ 1048576 := by
  simp only [ptOk, decide_eq_true_eq] at hp
  have a := mx_b h0 h1 (show p.f0 ≤ 1048576 by omega)
  have b := mx_b a.1 a.2 (show -p.f0 ≤ 1048576 by omega)
  have c := mx_b b.1 b.2 (show p.f1 ≤ 1048576 by omega)
  exact mx_b c.1 c.2 (show -p.f1 ≤ 1048576 by omega)
theorem mst_b : ∀ (l : List S28) (m : Int), l.all ptOk = true → 0 ≤ m → m ≤ 1048576 → 0 ≤ mst l m ∧ mst l m ≤ 1048576 := by
  intro l
  induction l with
  | nil => intro m _ h0 h1; exact ⟨h0, h1⟩
  | cons p l ih =>
    intro m hl h0 h1
    rw [List.all_cons, Bool.and_eq_true] at hl
    have u := up1_b h0 h1 hl.1
    exact ih _ hl.2 u.1 u.2
section
variable {c r s : Int} {D : List S28} (hD : D.all ptOk = true) (hl : (D.length : Int) ≤ 64)
include hD hl
theorem reachLoop : ∀ (n i : Nat) (m : Int), i + n = D.length → 0 ≤ m → m ≤ 1048576 → Ev (fun k => warp_Reach.l0 k m D (D.length : Int) (i : Int)) ((mst (D.drop i) m + 65535) / 65536) := by
  intro n
  induction n with
  | zero =>
    intro i m hi h0 h1
    rw [List.drop_eq_nil_of_le (by omega)]
    show Ev _ ((m + 65535) / 65536)
    refine .step (f := fun _ => some _) (fun k => ?_) (.now _)
    rw [warp_Reach.l0, if_neg (by omega), w64 (x := m + 65536) (by omega) (by omega), w64 (x := m + 65536 - 1) (by omega) (by omega), Int.tdiv_eq_ediv_of_nonneg (by omega), w64 (by omega) (by omega), show m + 65536 - 1 = m + 65535 by omega]
  | succ n ih =>
    intro i m hi h0 h1
    have hd : D.drop i = D[i] :: D.drop (i + 1) := List.drop_eq_getElem_cons (by omega)
    have hp : ptOk D[i] = true := List.all_eq_true.1 hD _ (List.getElem_mem _)
    have u := up1_b h0 h1 hp
    have ih' := ih (i + 1) (up1 m D[i]) (by omega) u.1 u.2
    rw [hd]
    show Ev _ ((mst (D.drop (i + 1)) (up1 m D[i]) + 65535) / 65536)
    simp only [ptOk, decide_eq_true_eq] at hp
    have n1 : wrap64 (-D[i].f0) = -D[i].f0 := w64 (by omega) (by omega)
    have n2 : wrap64 (-D[i].f1) = -D[i].f1 := w64 (by omega) (by omega)
    have ew : wrap64 ((i : Int) + 1) = ((i + 1 : Nat) : Int) := by rw [w64 (by omega) (by omega)]; rfl
    refine .step (fun k => by rw [warp_Reach.l0, if_pos (by omega), if_pos (by omega), if_pos (by omega), rd28_get D i (by omega), n1, n2, ew]) ?_
    exact ih'
end
/-- The greatest displacement in pixels. -/
def reachV (c r s : Int) (D : List S28) : Int := if chkW c r s D = 0 then (mst D 0 + 65535) / 65536 else 0
theorem reach_eq (c r s : Int) (D : List S28) : Ev (fun k => warp_Reach.f k c r s D) (reachV c r s D) := by
  unfold warp_Reach.f reachV
  refine (wcheck_eq c r s D).bind ?_
  by_cases h : chkW c r s D = 0
  · simp only [if_pos h]
    obtain ⟨⟨h1, h2, h3, h4, h5, h6, h7⟩, hD⟩ := chkW_ok h
    have hm := mul_b (c := c) (r := r) (by omega) (by omega) (by omega) (by omega)
    simpa using reachLoop hD (by omega) D.length 0 0 (by omega) (by omega) (by omega)
  · simp only [if_neg h]
    exact .now _
end Go.Proofs.Ytnfbabmceddciaa.Pure
