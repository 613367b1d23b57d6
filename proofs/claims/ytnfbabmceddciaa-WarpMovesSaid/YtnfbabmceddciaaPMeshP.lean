/- Meshes: Check, At and Reach, of the program and of the specification, compute the same. No conditions. -/
import Derived.Test.YtnfbabmceddciaaPDivP
import Derived.Test.YtnfbabmceddciaaG1
namespace Go.Proofs.Ytnfbabmceddciaa.Pure
open Go.RowKit Go.Proofs.YtnfbabmceddciaaW.PrintWords Go.Proofs.YtnfbabmceddciaaW.PrintLast Go.Proofs.YtnfbabmceddciaaW.PrintMore Go.Proofs.Ytnfbabmceddciaa.G
set_option linter.unusedVariables false
set_option linter.unusedSimpArgs false

def ptOk (p : S28) : Bool := decide (-1048576 ≤ p.f0 ∧ p.f0 ≤ 1048576 ∧ -1048576 ≤ p.f1 ∧ p.f1 ≤ 1048576)
def meshOk (c r s : Int) (D : List S28) : Bool := decide (2 ≤ c ∧ c ≤ 8 ∧ 2 ≤ r ∧ r ≤ 8 ∧ 1 ≤ s ∧ s ≤ 256 ∧ (D.length : Int) = c * r)
/-- The error of a mesh: 15 (size), 2 (range) or 0. -/
def chkW (c r s : Int) (D : List S28) : Int := if meshOk c r s D = true then (if D.all ptOk = true then 0 else 2) else 15
theorem rd28_get (l : List S28) (i : Nat) (h : i < l.length) : rd_T28 l (i : Int) = l[i] := by
  simp [rd_T28, List.getD_eq_getElem?_getD, List.getElem?_eq_getElem h]
theorem mul_b {c r : Int} (h1 : 0 ≤ c) (h2 : c ≤ 8) (h3 : 0 ≤ r) (h4 : r ≤ 8) : 0 ≤ c * r ∧ c * r ≤ 64 := by
  refine ⟨Int.mul_nonneg h1 h3, ?_⟩
  have := Int.mul_le_mul h2 h4 h3 (by omega : (0 : Int) ≤ 8)
  omega
theorem wcheckLoop (l : List S28) (hl : (l.length : Int) ≤ 64) : ∀ (n i : Nat), i + n = l.length → Ev (fun k => warp_Check.l0 k l (l.length : Int) (i : Int)) (if (l.drop i).all ptOk = true then 0 else 2) := by
  intro n
  induction n with
  | zero =>
    intro i hi
    refine .step (f := fun _ => some 0) (fun k => by rw [warp_Check.l0, if_neg (by omega)]) ?_
    rw [List.drop_eq_nil_of_le (by omega), if_pos (by rfl)]
    exact .now _
  | succ n ih =>
    intro i hi
    have hd : l.drop i = l[i] :: l.drop (i + 1) := List.drop_eq_getElem_cons (by omega)
    have ih' := ih (i + 1) (by omega)
    rw [hd, List.all_cons]
    have e := rd28_get l i (by omega)
    have ew : wrap64 ((i : Int) + 1) = ((i + 1 : Nat) : Int) := by rw [w64 (by omega) (by omega)]; rfl
    have bad : ptOk l[i] = false → Ev (fun _ : Nat => some (2 : Int)) (if (ptOk l[i] && (l.drop (i + 1)).all ptOk) = true then 0 else 2) := fun h => by rw [h]; exact .now _
    by_cases c1 : l[i].f0 < -1048576
    · exact .step (fun k => by rw [warp_Check.l0, if_pos (by omega), if_pos (by omega), if_pos (by omega), e, if_pos c1]) (bad (by rw [ptOk, decide_eq_false (by omega)]))
    by_cases c2 : l[i].f0 > 1048576
    · exact .step (fun k => by rw [warp_Check.l0, if_pos (by omega), if_pos (by omega), if_pos (by omega), e, if_neg c1, if_pos c2]) (bad (by rw [ptOk, decide_eq_false (by omega)]))
    by_cases c3 : l[i].f1 < -1048576
    · exact .step (fun k => by rw [warp_Check.l0, if_pos (by omega), if_pos (by omega), if_pos (by omega), e, if_neg c1, if_neg c2, if_pos c3]) (bad (by rw [ptOk, decide_eq_false (by omega)]))
    by_cases c4 : l[i].f1 > 1048576
    · exact .step (fun k => by rw [warp_Check.l0, if_pos (by omega), if_pos (by omega), if_pos (by omega), e, if_neg c1, if_neg c2, if_neg c3, if_pos c4]) (bad (by rw [ptOk, decide_eq_false (by omega)]))
    rw [show ptOk l[i] = true by rw [ptOk, decide_eq_true (by omega)], Bool.true_and]
    refine .step (fun k => by rw [warp_Check.l0, if_pos (by omega), if_pos (by omega), if_pos (by omega), e, if_neg c1, if_neg c2, if_neg c3, if_neg c4, ew]) ?_
    exact ih'
theorem side_eq (a : Int) : warp_Check_1.f a = some (decide (2 ≤ a ∧ a ≤ 8)) := by
  unfold warp_Check_1.f
  by_cases h : a ≥ 2
  · rw [if_pos h]; congr 1; exact decide_eq_decide.2 (by omega)
  · rw [if_neg h, decide_eq_false (by omega)]
theorem wcheck_eq (c r s : Int) (D : List S28) : Ev (fun k => warp_Check.f k c r s D) (chkW c r s D) := by
  have bad : meshOk c r s D = false → Ev (fun k => warp_Check.j0 k true c r s D) (chkW c r s D) := fun h => .step (f := fun _ => some _) (fun k => by rw [warp_Check.j0, if_pos rfl, chkW, h, if_neg (by simp)]) (.now _)
  unfold warp_Check.f
  simp only [side_eq, Option.bind_some, decide_eq_true_eq]
  by_cases h1 : 2 ≤ c ∧ c ≤ 8
  case neg => simp only [if_neg h1]; exact bad (by rw [meshOk, decide_eq_false (by omega)])
  simp only [if_pos h1]
  by_cases h2 : 2 ≤ r ∧ r ≤ 8
  case neg => simp only [if_neg h2]; exact bad (by rw [meshOk, decide_eq_false (by omega)])
  simp only [if_pos h2]
  by_cases h3 : s < 1
  · simp only [if_pos h3]; exact bad (by rw [meshOk, decide_eq_false (by omega)])
  simp only [if_neg h3]
  by_cases h4 : s > 256
  · simp only [if_pos h4]; exact bad (by rw [meshOk, decide_eq_false (by omega)])
  simp only [if_neg h4]
  have hm := mul_b (c := c) (r := r) (by omega) (by omega) (by omega) (by omega)
  rw [w64 (by omega) (by omega)]
  by_cases h5 : (D.length : Int) = c * r
  · rw [bne_eq_false_iff_eq.2 h5]
    refine .step (fun k => by rw [warp_Check.j0, if_neg (by simp)]) ?_
    rw [chkW, if_pos (by rw [meshOk, decide_eq_true ⟨by omega, by omega, by omega, by omega, by omega, by omega, h5⟩])]
    simpa using wcheckLoop D (by omega) D.length 0 (by omega)
  · rw [bne_iff_ne.2 h5]
    exact bad (by rw [meshOk, decide_eq_false (fun h => h5 h.2.2.2.2.2.2)])
theorem chkW_ok {c r s : Int} {D : List S28} (h : chkW c r s D = 0) : (2 ≤ c ∧ c ≤ 8 ∧ 2 ≤ r ∧ r ≤ 8 ∧ 1 ≤ s ∧ s ≤ 256 ∧ (D.length : Int) = c * r) ∧ D.all ptOk = true := by
  unfold chkW at h
  by_cases h1 : meshOk c r s D = true
  · rw [if_pos h1] at h
    by_cases h2 : D.all ptOk = true
    · exact ⟨by simpa [meshOk] using h1, h2⟩
    · rw [if_neg h2] at h; omega
  · rw [if_neg h1] at h; omega
/-- A point of a good mesh. -/
theorem pt_b {D : List S28} (h : D.all ptOk = true) {i : Int} (h0 : 0 ≤ i) (h1 : i < D.length) : (-1048576 ≤ (rd_T28 D i).f0 ∧ (rd_T28 D i).f0 ≤ 1048576) ∧ (-1048576 ≤ (rd_T28 D i).f1 ∧ (rd_T28 D i).f1 ≤ 1048576) := by
  obtain ⟨j, rfl⟩ := Int.eq_ofNat_of_zero_le h0
  rw [rd28_get D j (by omega)]
  have := List.all_eq_true.1 h _ (List.getElem_mem (show j < D.length by omega))
  simp only [ptOk, decide_eq_true_eq] at this
  omega
/-! ### Cells -/
/-- The coordinate within the mesh, its interval, the offset in it. -/
def cu (x p s : Int) : Int := mn ((p - 1) * s) (mx x 0)
def ci (x p s : Int) : Int := mn (cu x p s / s) (p - 2)
def cf (x p s : Int) : Int := cu x p s - ci x p s * s
theorem cell_b {x p s : Int} (hp : 2 ≤ p) (hp' : p ≤ 8) (hs : 1 ≤ s) (hs' : s ≤ 256) : 0 ≤ cu x p s ∧ cu x p s ≤ 1792 ∧ 0 ≤ cu x p s / s ∧ cu x p s / s ≤ 1792 ∧ 0 ≤ ci x p s ∧ ci x p s ≤ p - 2 ∧ 0 ≤ cf x p s ∧ cf x p s ≤ s ∧ 0 ≤ (p - 1) * s ∧ (p - 1) * s ≤ 1792 ∧ 0 ≤ ci x p s * s ∧ ci x p s * s ≤ 1792 := by
  have a1 : 0 ≤ (p - 1) * s := Int.mul_nonneg (by omega) (by omega)
  have a2 : (p - 1) * s ≤ 1792 := by
    have := Int.mul_le_mul (show p - 1 ≤ 7 by omega) hs' (by omega) (by omega : (0 : Int) ≤ 7)
    omega
  have b1 : 0 ≤ cu x p s ∧ cu x p s ≤ (p - 1) * s := by unfold cu mn mx; split <;> split <;> omega
  have e := Int.mul_ediv_add_emod (cu x p s) s
  have m1 := Int.emod_nonneg (cu x p s) (show s ≠ 0 by omega)
  have m2 := Int.emod_lt_of_pos (cu x p s) (show 0 < s by omega)
  have q0 : 0 ≤ cu x p s / s := Int.ediv_nonneg b1.1 (by omega)
  have q1 : cu x p s / s ≤ 1792 := by have := Int.ediv_le_self s b1.1; omega
  have c1 : (p - 2) * s = (p - 1) * s - s := by rw [show p - 2 = p - 1 - 1 by omega, Int.sub_mul (p - 1) 1 s, Int.one_mul]
  have t0 : 0 ≤ (p - 2) * s := Int.mul_nonneg (by omega) (by omega)
  have z0 : 0 ≤ cu x p s / s * s := Int.mul_nonneg q0 (by omega)
  have ic : ci x p s = mn (cu x p s / s) (p - 2) := rfl
  have fc : cf x p s = cu x p s - ci x p s * s := rfl
  rw [fc, ic]
  unfold mn
  rw [Int.mul_comm s (cu x p s / s)] at e
  split
  · rename_i h
    have : (p - 1) * s ≤ (cu x p s / s) * s := Int.mul_le_mul_of_nonneg_right (by omega) (by omega)
    generalize cu x p s / s * s = z at *
    generalize (p - 1) * s = y at *
    generalize (p - 2) * s = t at *
    generalize cu x p s / s = q at *
    generalize cu x p s % s = m at *
    omega
  · generalize cu x p s / s * s = z at *
    generalize (p - 1) * s = y at *
    generalize cu x p s / s = q at *
    generalize cu x p s % s = m at *
    omega
theorem cell_eq {x p s : Int} (hp : 2 ≤ p) (hp' : p ≤ 8) (hs : 1 ≤ s) (hs' : s ≤ 256) : warp_cell.f x p s = some (ci x p s, cf x p s) := by
  obtain ⟨b1, b2, b3, b4, b5, b6, b7, b8, b9, b10, b11, b12⟩ := cell_b (x := x) hp hp' hs hs'
  unfold warp_cell.f num_Clamp.f
  rw [Option.bind_some, if_neg (show ¬ s = 0 by omega), w64 (x := p - 1) (by omega) (by omega), w64 (x := (p - 1) * s) (by omega) (by omega), w64 (x := p - 2) (by omega) (by omega)]
  rw [show mn ((p - 1) * s) (mx x 0) = cu x p s from rfl, Int.tdiv_eq_ediv_of_nonneg b1, w64 (x := cu x p s / s) (by omega) (by omega), show mn (cu x p s / s) (p - 2) = ci x p s from rfl, w64 (x := ci x p s * s) (by omega) (by omega), w64 (x := cu x p s - ci x p s * s) (by omega) (by omega)]
  rfl
/-! ### Between four points -/
def mixV (n f g a b c d : Int) : Int := (n - f) * (n - g) * a + f * (n - g) * b + (n - f) * g * c + f * g * d
theorem mul_bd {a b A B : Int} (h1 : 0 ≤ a) (h2 : a ≤ A) (h3 : -B ≤ b) (h4 : b ≤ B) : -(A * B) ≤ a * b ∧ a * b ≤ A * B := by
  have hB : 0 ≤ B := by omega
  have p := Int.mul_le_mul_of_nonneg_left h4 h1
  have q := Int.mul_le_mul_of_nonneg_left h3 h1
  have r := Int.mul_le_mul_of_nonneg_right h2 hB
  rw [Int.mul_neg] at q
  omega
theorem mix_w {n f g a b c d : Int} (hn : 1 ≤ n) (hn' : n ≤ 256) (hf : 0 ≤ f) (hf' : f ≤ n) (hg : 0 ≤ g) (hg' : g ≤ n)
    (ha : -1048576 ≤ a ∧ a ≤ 1048576) (hb : -1048576 ≤ b ∧ b ≤ 1048576) (hc : -1048576 ≤ c ∧ c ≤ 1048576) (hd : -1048576 ≤ d ∧ d ≤ 1048576) :
    wrap64 ((wrap64 ((wrap64 ((wrap64 ((wrap64 ((wrap64 (n - f)) * (wrap64 (n - g)))) * a)) + (wrap64 ((wrap64 (f * (wrap64 (n - g)))) * b)))) + (wrap64 ((wrap64 ((wrap64 (n - f)) * g)) * c)))) + (wrap64 ((wrap64 (f * g)) * d))) = mixV n f g a b c d ∧
    (-4611686018427387904 ≤ mixV n f g a b c d ∧ mixV n f g a b c d ≤ 4611686018427387904) ∧ wrap64 (n * n) = n * n ∧ 0 < n * n ∧ n * n ≤ 1000000000000 := by
  have pos : ∀ x y : Int, 0 ≤ x → x ≤ 256 → 0 ≤ y → y ≤ 256 → 0 ≤ x * y ∧ x * y ≤ 65536 := fun x y h1 h2 h3 h4 => ⟨Int.mul_nonneg h1 h3, by have := Int.mul_le_mul h2 h4 h3 (by omega : (0 : Int) ≤ 256); omega⟩
  have p1 := pos (n - f) (n - g) (by omega) (by omega) (by omega) (by omega)
  have p2 := pos f (n - g) (by omega) (by omega) (by omega) (by omega)
  have p3 := pos (n - f) g (by omega) (by omega) (by omega) (by omega)
  have p4 := pos f g (by omega) (by omega) (by omega) (by omega)
  have p5 := pos n n (by omega) (by omega) (by omega) (by omega)
  have q1 := mul_bd (A := 65536) (B := 1048576) p1.1 p1.2 (by omega) ha.2
  have q2 := mul_bd (A := 65536) (B := 1048576) p2.1 p2.2 (by omega) hb.2
  have q3 := mul_bd (A := 65536) (B := 1048576) p3.1 p3.2 (by omega) hc.2
  have q4 := mul_bd (A := 65536) (B := 1048576) p4.1 p4.2 (by omega) hd.2
  have p6 : 0 < n * n := Int.mul_pos (by omega) (by omega)
  rw [w64 (x := n - f) (by omega) (by omega), w64 (x := n - g) (by omega) (by omega)]
  rw [w64 (x := (n - f) * (n - g)) (by omega) (by omega), w64 (x := f * (n - g)) (by omega) (by omega), w64 (x := (n - f) * g) (by omega) (by omega), w64 (x := f * g) (by omega) (by omega)]
  unfold mixV
  generalize (n - f) * (n - g) * a = A at *
  generalize f * (n - g) * b = B at *
  generalize (n - f) * g * c = C at *
  generalize f * g * d = E at *
  refine ⟨?_, ⟨by omega, by omega⟩, w64 (by omega) (by omega), p6, by omega⟩
  rw [w64 (x := A) (by omega) (by omega), w64 (x := B) (by omega) (by omega), w64 (x := C) (by omega) (by omega), w64 (x := E) (by omega) (by omega), w64 (x := A + B) (by omega) (by omega), w64 (x := A + B + C) (by omega) (by omega), w64 (by omega) (by omega)]
end Go.Proofs.Ytnfbabmceddciaa.Pure
