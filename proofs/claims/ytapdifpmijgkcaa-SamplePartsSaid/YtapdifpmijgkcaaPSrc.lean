/- The sample at a position always answers, with unit values. -/
import Derived.Test.YtapdifpmijgkcaaPTaps
import Derived.Test.YtapdifpmijgkcaaPIm
import Derived.Test.YtapdifpmijgkcaaPWide
import Derived.Test.YtapdifpmijgkcaaG1
import Derived.Test.YtapdifpmijgkcaaG4
import Derived.Test.YtapdifpmijgkcaaG6
import Derived.Test.YtapdifpmijgkcaaG7
namespace Go.Proofs.Ytapdifpmijgkcaa.Pure
open Go.RowKit Go.Proofs.YtapdifpmijgkcaaW.PrintWords Go.Proofs.YtapdifpmijgkcaaW.PrintLast Go.Proofs.YtapdifpmijgkcaaW.PrintMore Go.Proofs.Ytapdifpmijgkcaa.G
set_option linter.unusedVariables false
set_option linter.unusedSimpArgs false
set_option linter.unusedSectionVars false

theorem sget_eq {W H : Int} {l : List S37} (hs : sidesOk W H = true) (hl : (l.length : Int) = W * H) (x y : Int) : Ev (fun k => sample_source_get.f k W H l false x y) ((pick W H l x y).f0, (pick W H l x y).f1, (pick W H l x y).f2, (pick W H l x y).f3) := by
  have ha := area hs
  unfold sample_source_get.f
  simp only [Bool.false_eq_true, if_false]
  have go : ∀ r, (∀ k, sample_source_get.j0 (k + 1) x y false W H l false = some r) → Ev (fun k => sample_source_get.j0 k x y false W H l false) r := fun r h => .step (f := fun _ => some r) h (.now _)
  by_cases c1 : x < 0
  · rw [pick_out (fun h => by have := h.1; omega)]
    exact go _ (fun k => by rw [sample_source_get.j0, if_neg (by simp), if_pos c1]; rfl)
  by_cases c2 : x ≥ W
  · rw [pick_out (fun h => by have := h.2.1; omega)]
    exact go _ (fun k => by rw [sample_source_get.j0, if_neg (by simp), if_neg c1, if_pos c2]; rfl)
  by_cases c3 : y < 0
  · rw [pick_out (fun h => by have := h.2.2.1; omega)]
    exact go _ (fun k => by rw [sample_source_get.j0, if_neg (by simp), if_neg c1, if_neg c2, if_pos c3]; rfl)
  by_cases c4 : y ≥ H
  · rw [pick_out (fun h => by have := h.2.2.2; omega)]
    exact go _ (fun k => by rw [sample_source_get.j0, if_neg (by simp), if_neg c1, if_neg c2, if_neg c3, if_pos c4]; rfl)
  have hi : Ins W H x y := ⟨by omega, by omega, by omega, by omega⟩
  have hp := place_in hi
  have hm := Int.mul_nonneg (show 0 ≤ y by omega) (show 0 ≤ W by omega)
  have e1 : wrap64 (y * W) = y * W := w64 (by omega) (by omega)
  have e2 : wrap64 (y * W + x) = y * W + x := w64 (by omega) (by omega)
  exact go _ (fun k => by rw [sample_source_get.j0, if_neg (by simp), if_neg c1, if_neg c2, if_neg c3, if_neg c4, e1, e2, if_pos hp.1, if_pos (by omega), pick_in hi])
theorem wrap_b (x : Int) : -9223372036854775808 ≤ wrap64 x ∧ wrap64 x ≤ 9223372036854775807 := by unfold wrap64; omega
/-- A sum that is not positive is rounded to a number that is not positive. -/
theorem div_neg {a r : Int} (h : -9223372036854775808 ≤ a) (h' : a ≤ 0) (e : num_Div.f 1 a 4294967296 = some r) : r ≤ 0 := by
  obtain ⟨f1, f2⟩ := tdiv_facts a 4294967296 (by decide)
  have fl : num_Floor.f a 4294967296 = some (a / 4294967296) := by
    unfold num_Floor.f
    rw [if_neg (by omega), if_neg (by omega)]
    by_cases ha : 0 ≤ a
    · obtain ⟨e1, e2⟩ := f1 ha
      have hz : a = 0 := by omega
      rw [e1, e2, hz]
      decide +kernel
    · obtain ⟨g1, g2⟩ := f2 (by omega)
      rw [decide_eq_true (show a < 0 by omega), decide_eq_false (show ¬ (4294967296 : Int) < 0 by omega)]
      by_cases hm : Int.tmod a 4294967296 = 0
      · rw [if_pos hm, g1 hm, w64 (by omega) (by omega)]
      · rw [if_neg hm, g2 hm, w64 (show -9223372036854775808 ≤ a / 4294967296 + 1 by omega) (by omega), w64 (by omega) (by omega), if_pos (by decide)]
        congr 1; omega
  unfold num_Div.f at e
  rw [fl, Option.bind_some, if_neg (by decide)] at e
  simp only [num_Div.j0] at e
  rw [if_neg (by decide), if_pos (by decide), w64 (show -9223372036854775808 ≤ a / 4294967296 * 4294967296 by omega) (by omega), w64 (show -9223372036854775808 ≤ a - a / 4294967296 * 4294967296 by omega) (by omega), w64 (show -9223372036854775808 ≤ 4294967296 - (a - a / 4294967296 * 4294967296) by omega) (by omega), w64 (show -9223372036854775808 ≤ a / 4294967296 + 1 by omega) (by omega), if_neg (show ¬ (4294967296 : Int) < 0 by decide)] at e
  split at e
  · have := Option.some.inj e
    omega
  · have := Option.some.inj e
    omega
/-- A pixel that is answered: its values are unit values. -/
def pixT (g : Nat → Option (Int × Int × Int × Int)) : Prop := ∃ p : S37, Ev g (p.f0, p.f1, p.f2, p.f3) ∧ pxOkS p = true
theorem cl_b (x : Int) : 0 ≤ mn 65535 (mx x 0) ∧ mn 65535 (mx x 0) ≤ 65535 := by unfold mn mx; split <;> split <;> omega
section
variable {W H : Int} {l : List S37} (hs : sidesOk W H = true) (hl : (l.length : Int) = W * H) (fx : Int) (A : List Int) (fy : Int) (B : List Int) (hA : A.length ≤ 100) (hB : B.length ≤ 100)
include hs hl hA hB
theorem at_end {t : Int} (ht : -9223372036854775808 ≤ t ∧ t ≤ 9223372036854775807) (s0 s1 s2 s3 s4 s5 : Int) : pixT (fun k => (num_Div.f k t 4294967296).bind fun t241 => ((num_Clamp.f t241 0 65535).bind fun t242 => (if t242 = 0 then (some (0, 0, 0, 0)) else ((sample_sum_over.f k s0 s1 t).bind fun t243 => ((sample_sum_over.f k s2 s3 t).bind fun t244 => ((sample_sum_over.f k s4 s5 t).bind fun t245 => (some (t243, t244, t245, t242)))))))) := by
  obtain ⟨d, hd⟩ := div1 t 4294967296
  have hD : Ev (fun k => num_Div.f k t 4294967296) d := .of (num_Div.mono t 4294967296) hd
  have ec : num_Clamp.f d 0 65535 = some (mn 65535 (mx d 0)) := rfl
  have cb := cl_b d
  by_cases c : mn 65535 (mx d 0) = 0
  · refine ⟨z37, hD.bind ?_, by decide⟩
    simp only [ec, Option.bind_some, if_pos c]
    exact .now _
  have hp : 1 ≤ t := by
    rcases Int.lt_or_le 0 t with q | q
    · omega
    · have := div_neg ht.1 q hd
      exact absurd (show mn 65535 (mx d 0) = 0 by unfold mn mx; split <;> split <;> omega) c
  obtain ⟨r, hr, r0, r1⟩ := over_tot s0 s1 hp ht.2
  obtain ⟨g, hg, g0, g1⟩ := over_tot s2 s3 hp ht.2
  obtain ⟨b, hb, b0, b1⟩ := over_tot s4 s5 hp ht.2
  refine ⟨⟨r, g, b, mn 65535 (mx d 0)⟩, hD.bind ?_, (pxOk_iff _ _ _ _).2 ⟨⟨r0, r1⟩, ⟨g0, g1⟩, ⟨b0, b1⟩, cb⟩⟩
  simp only [ec, Option.bind_some, if_neg c]
  exact hr.bind (hg.bind (hb.bind (.now _)))
theorem at_l1 (t : Int) (j v : Int) (s0 s1 s2 s3 s4 s5 : Int) (next : ∀ t' s0 s1 s2 s3 s4 s5, (-9223372036854775808 ≤ t' ∧ t' ≤ 9223372036854775807) → pixT (fun k => sample_source_at.l0 k fx A fy t' B (B.length : Int) (wrap64 (j + 1)) W H l false s0 s1 s2 s3 s4 s5)) : ∀ (n i : Nat) (a0 a1 a2 a3 : Int), i + n = A.length → pixT (fun k => sample_source_at.l1 k fx A fy t j v a0 a1 a2 a3 B (B.length : Int) j A (A.length : Int) (i : Int) W H l false s0 s1 s2 s3 s4 s5) := by
  intro n
  induction n with
  | zero =>
    intro i a0 a1 a2 a3 hi
    obtain ⟨p, hp, ho⟩ := next (wrap64 (t + wrap64 (v * a0))) (wrap64 (s0 + (wrap64 (v * (a1 / 4294967296))))) (wrap64 (s1 + (wrap64 (v * (Go.bits .and .i64 a1 4294967295))))) (wrap64 (s2 + (wrap64 (v * (a2 / 4294967296))))) (wrap64 (s3 + (wrap64 (v * (Go.bits .and .i64 a2 4294967295))))) (wrap64 (s4 + (wrap64 (v * (a3 / 4294967296))))) (wrap64 (s5 + (wrap64 (v * (Go.bits .and .i64 a3 4294967295))))) (wrap_b _)
    exact ⟨p, .step (fun k => by rw [sample_source_at.l1, if_neg (by omega)]; rfl) hp, ho⟩
  | succ n ih =>
    intro i a0 a1 a2 a3 hi
    have ew : wrap64 ((i : Int) + 1) = ((i + 1 : Nat) : Int) := by rw [w64 (by omega) (by omega)]; rfl
    have hg := sget_eq hs hl (wrap64 (fx + (i : Int))) (wrap64 (fy + j))
    obtain ⟨p, hp, ho⟩ := ih (i + 1) (wrap64 (a0 + (wrap64 ((rd A (i : Int)) * (pick W H l (wrap64 (fx + (i : Int))) (wrap64 (fy + j))).f3)))) (wrap64 (a1 + (wrap64 ((wrap64 ((rd A (i : Int)) * (pick W H l (wrap64 (fx + (i : Int))) (wrap64 (fy + j))).f0)) * (pick W H l (wrap64 (fx + (i : Int))) (wrap64 (fy + j))).f3)))) (wrap64 (a2 + (wrap64 ((wrap64 ((rd A (i : Int)) * (pick W H l (wrap64 (fx + (i : Int))) (wrap64 (fy + j))).f1)) * (pick W H l (wrap64 (fx + (i : Int))) (wrap64 (fy + j))).f3)))) (wrap64 (a3 + (wrap64 ((wrap64 ((rd A (i : Int)) * (pick W H l (wrap64 (fx + (i : Int))) (wrap64 (fy + j))).f2)) * (pick W H l (wrap64 (fx + (i : Int))) (wrap64 (fy + j))).f3)))) (by omega)
    refine ⟨p, .step (fun k => by rw [sample_source_at.l1, if_pos (by omega), if_pos (by omega), if_pos (by omega)]) (hg.bind ?_), ho⟩
    simp only [ew]
    exact hp
theorem at_l0 : ∀ (n j : Nat) (t s0 s1 s2 s3 s4 s5 : Int), j + n = B.length → (-9223372036854775808 ≤ t ∧ t ≤ 9223372036854775807) → pixT (fun k => sample_source_at.l0 k fx A fy t B (B.length : Int) (j : Int) W H l false s0 s1 s2 s3 s4 s5) := by
  intro n
  induction n with
  | zero =>
    intro j t s0 s1 s2 s3 s4 s5 hj ht
    obtain ⟨p, hp, ho⟩ := at_end hs hl A B hA hB ht s0 s1 s2 s3 s4 s5
    exact ⟨p, .step (fun k => by rw [sample_source_at.l0, if_neg (by omega)]) hp, ho⟩
  | succ n ih =>
    intro j t s0 s1 s2 s3 s4 s5 hj ht
    have ew : wrap64 ((j : Int) + 1) = ((j + 1 : Nat) : Int) := by rw [w64 (by omega) (by omega)]; rfl
    obtain ⟨p, hp, ho⟩ := at_l1 hs hl fx A fy B hA hB t (j : Int) (rd B (j : Int)) s0 s1 s2 s3 s4 s5 (fun t' u0 u1 u2 u3 u4 u5 ht' => by rw [ew]; exact ih (j + 1) t' u0 u1 u2 u3 u4 u5 (by omega) ht') A.length 0 0 0 0 0 (by omega)
    exact ⟨p, .step (fun k => by rw [sample_source_at.l0, if_pos (by omega), if_pos (by omega), if_pos (by omega)]; rfl) hp, ho⟩
end
theorem pxOk_rd {l : List S37} (h : l.all pxOkS = true) (i : Int) : pxOkS (rd_T37 l i) = true := by
  unfold rd_T37
  rw [List.getD_eq_getElem?_getD]
  by_cases c : i.toNat < l.length
  · rw [List.getElem?_eq_getElem c]
    exact List.all_eq_true.1 h _ (List.getElem_mem c)
  · rw [List.getElem?_eq_none (by omega)]
    decide
theorem pxOk_pick {W H : Int} {l : List S37} (h : l.all pxOkS = true) (x y : Int) : pxOkS (pick W H l x y) = true := by
  unfold pick
  split
  · exact pxOk_rd h _
  · decide
/-- The sample at a position always answers. -/
theorem at_tot {W H : Int} {l : List S37} (hc : chk W H l = 0) {kind : Int} (hk : 0 ≤ kind ∧ kind ≤ 4) (x y : Int) : pixT (fun k => sample_source_at.f k W H l false kind x y) := by
  obtain ⟨hs, hl, ha⟩ := chk_ok hc
  unfold sample_source_at.f
  by_cases c : kind = 0
  · refine ⟨pick W H l (x / 65536) (y / 65536), ?_, pxOk_pick ha _ _⟩
    simp only [if_pos c]
    exact (sget_eq hs hl _ _).bind (.now _)
  simp only [if_neg c]
  obtain ⟨T, hT, t1, t2, _⟩ := taps_tot hk x
  obtain ⟨U, hU, u1, u2, _⟩ := taps_tot hk y
  obtain ⟨p, hp, ho⟩ := at_l0 hs hl T.1 T.2 U.1 U.2 t2 u2 U.2.length 0 0 0 0 0 0 0 0 (by omega) (by omega)
  exact ⟨p, hT.bind (hU.bind hp), ho⟩
end Go.Proofs.Ytapdifpmijgkcaa.Pure
