/- Taps at the center of a pixel, the sums of one pixel, a mesh of equal displacements. -/
import Derived.Test.YtnfbabmceddciaaPDraw
import Derived.Test.YtnfbabmceddciaaG1
import Derived.Test.YtnfbabmceddciaaG9
import Derived.Test.YtnfbabmceddciaaG10
import Derived.Test.YtnfbabmceddciaaG11
namespace Go.Proofs.Ytnfbabmceddciaa.Pure
open Go.RowKit Go.Proofs.YtnfbabmceddciaaW.PrintWords Go.Proofs.YtnfbabmceddciaaW.PrintLast Go.Proofs.YtnfbabmceddciaaW.PrintMore Go.Proofs.Ytnfbabmceddciaa.G
set_option linter.unusedVariables false
set_option linter.unusedSimpArgs false

theorem ev_uniq {α : Type} {g : Nat → Option α} {a b : α} (h : Ev g a) (h' : Ev g b) : a = b := by
  obtain ⟨K, hK⟩ := h
  obtain ⟨L, hL⟩ := h'
  have e := (hK (max K L) (Nat.le_max_left ..)).symm.trans (hL (max K L) (Nat.le_max_right ..))
  exact Option.some.inj e
/-! ### Taps at the center of a pixel -/
/-- The kernels but Mitchell: the weights at the center of a pixel. -/
def wts (kd : Int) : List Int := if kd = 2 then [0, 65536, 0] else [65536]
theorem wgt {kd t r : Int} (h : kernel_Weight.f 2 kd t = some r) : Ev (fun k => kernel_Weight.f k kd t) r := .of (kernel_Weight.mono kd t) h
theorem w00 : kernel_Weight.f 2 0 0 = some 65536 := by decide +kernel
theorem w10 : kernel_Weight.f 2 1 0 = some 65536 := by decide +kernel
theorem w30 : kernel_Weight.f 2 3 0 = some 65536 := by decide +kernel
theorem w2a : kernel_Weight.f 2 2 65536 = some 0 := by decide +kernel
theorem w20 : kernel_Weight.f 2 2 0 = some 65536 := by decide +kernel
theorem w2b : kernel_Weight.f 2 2 (-65536) = some 0 := by decide +kernel
theorem dvs {a b r : Int} (h : num_Div.f 1 a b = some r) : Ev (fun k => num_Div.f k a b) r := .of (num_Div.mono a b) h
theorem d1 : num_Div.f 1 4294967296 65536 = some 65536 := by decide +kernel
theorem d0 : num_Div.f 1 0 65536 = some 0 := by decide +kernel
theorem l1_one (z : Int) : Ev (fun k => kernel_Taps.l1 k z [65536] 65536 65536 0 1 0) (z, [65536]) := by
  have q : num_Div.f 1 (wrap64 ((rd [65536] 0) * 65536)) 65536 = some 65536 := by decide +kernel
  refine .step (fun k => by rw [kernel_Taps.l1, if_pos (by decide), if_pos (by decide), if_pos (by decide)]) ((dvs q).bind ?_)
  simp only [Option.bind_some, show (([65536] : List Int).set (Int.toNat 0) 65536 : List Int) = [65536] from rfl, if_pos (show (0 : Int) ≤ 0 by decide), if_pos (show (0 : Int) < (([65536] : List Int).length : Int) by decide), if_neg (show ¬ rd ([65536] : List Int) 0 > rd ([65536] : List Int) 0 by decide +kernel), show wrap64 (65536 - rd ([65536] : List Int) 0) = 0 by decide +kernel, show wrap64 (0 + 1) = 1 by decide +kernel]
  exact .step (f := fun _ => some (z, [65536])) (fun k => by rw [kernel_Taps.l1, if_neg (by decide), if_pos (by decide), if_pos (by decide), show ([65536] : List Int).set (Int.toNat 0) (wrap64 (rd [65536] 0 + 0)) = [65536] by decide +kernel]) (.now _)
theorem l1_three (z : Int) : Ev (fun k => kernel_Taps.l1 k z [0, 65536, 0] 65536 65536 0 3 0) (z, [0, 65536, 0]) := by
  have q0 : num_Div.f 1 (wrap64 ((rd [0, 65536, 0] 0) * 65536)) 65536 = some 0 := by decide +kernel
  have q1 : num_Div.f 1 (wrap64 ((rd [0, 65536, 0] 1) * 65536)) 65536 = some 65536 := by decide +kernel
  have q2 : num_Div.f 1 (wrap64 ((rd [0, 65536, 0] 2) * 65536)) 65536 = some 0 := by decide +kernel
  refine .step (fun k => by rw [kernel_Taps.l1, if_pos (by decide), if_pos (by decide), if_pos (by decide)]) ((dvs q0).bind ?_)
  simp only [Option.bind_some, show (([0, 65536, 0] : List Int).set (Int.toNat 0) 0 : List Int) = [0, 65536, 0] from rfl, if_pos (show (0 : Int) ≤ 0 by decide), if_pos (show (0 : Int) < (([0, 65536, 0] : List Int).length : Int) by decide), if_neg (show ¬ rd ([0, 65536, 0] : List Int) 0 > rd ([0, 65536, 0] : List Int) 0 by decide +kernel), show wrap64 (65536 - rd ([0, 65536, 0] : List Int) 0) = 65536 by decide +kernel, show wrap64 (0 + 1) = 1 by decide +kernel]
  refine .step (fun k => by rw [kernel_Taps.l1, if_pos (by decide), if_pos (by decide), if_pos (by decide)]) ((dvs q1).bind ?_)
  simp only [Option.bind_some, show (([0, 65536, 0] : List Int).set (Int.toNat 1) 65536 : List Int) = [0, 65536, 0] from rfl, if_pos (show (0 : Int) ≤ 0 by decide), if_pos (show (0 : Int) < (([0, 65536, 0] : List Int).length : Int) by decide), if_pos (show  rd ([0, 65536, 0] : List Int) 1 > rd ([0, 65536, 0] : List Int) 0 by decide +kernel), show wrap64 (65536 - rd ([0, 65536, 0] : List Int) 1) = 0 by decide +kernel, show wrap64 (1 + 1) = 2 by decide +kernel]
  refine .step (fun k => by rw [kernel_Taps.l1, if_pos (by decide), if_pos (by decide), if_pos (by decide)]) ((dvs q2).bind ?_)
  simp only [Option.bind_some, show (([0, 65536, 0] : List Int).set (Int.toNat 2) 0 : List Int) = [0, 65536, 0] from rfl, if_pos (show (0 : Int) ≤ 1 by decide), if_pos (show (1 : Int) < (([0, 65536, 0] : List Int).length : Int) by decide), if_neg (show ¬ rd ([0, 65536, 0] : List Int) 2 > rd ([0, 65536, 0] : List Int) 1 by decide +kernel), show wrap64 (0 - rd ([0, 65536, 0] : List Int) 2) = 0 by decide +kernel, show wrap64 (2 + 1) = 3 by decide +kernel]
  exact .step (f := fun _ => some (z, [0, 65536, 0])) (fun k => by rw [kernel_Taps.l1, if_neg (by decide), if_pos (by decide), if_pos (by decide), show ([0, 65536, 0] : List Int).set (Int.toNat 1) (wrap64 (rd [0, 65536, 0] 1 + 0)) = [0, 65536, 0] by decide +kernel]) (.now _)
theorem l0_step {kd x z : Int} {L : List Int} {x6 x7 c t d : Int} {R : Int × List Int} (hw : Ev (fun k => kernel_Weight.f k kd d) t) (hd : x - c = d) (hx : -1000000000000 ≤ x ∧ x ≤ 1000000000000) (hc : -1000000000000 ≤ c ∧ c ≤ 1000000000000) (h6 : 0 ≤ x6 ∧ x6 ≤ 131072) (hlt : c < x + x6) (hL : L.length ≤ 100) (h7 : 0 ≤ x7 + t ∧ x7 + t ≤ 1000000) (hE : Ev (fun k => kernel_Taps.l0 k kd x z (L ++ [t]) x6 (x7 + t) (c + 65536)) R) : Ev (fun k => kernel_Taps.l0 k kd x z L x6 x7 c) R := by
  refine .step (fun k => by rw [kernel_Taps.l0, w64 (x := x + x6) (by omega) (by omega), if_pos hlt, w64 (x := x - c) (by omega) (by omega), hd]) (hw.bind ?_)
  simp only [if_pos (show L.length < 17592186044416 by omega), w64 (show -9223372036854775808 ≤ c + 65536 by omega) (by omega), w64 (show -9223372036854775808 ≤ x7 + t by omega) (by omega)]
  exact hE
theorem l0_end {kd x z : Int} {L : List Int} {x6 x7 c : Int} {R : Int × List Int} (hx : -1000000000000 ≤ x ∧ x ≤ 1000000000000) (h6 : 0 ≤ x6 ∧ x6 ≤ 131072) (hge : ¬ c < x + x6) (hE : Ev (fun k => kernel_Taps.l1 k z L x7 65536 0 (L.length : Int) 0) R) : Ev (fun k => kernel_Taps.l0 k kd x z L x6 x7 c) R :=
  .step (fun k => by rw [kernel_Taps.l0, w64 (x := x + x6) (by omega) (by omega), if_neg hge]) hE
theorem taps_at {kd z : Int} (hk : 0 ≤ kd ∧ kd ≤ 3) (hz : -1000000 ≤ z ∧ z ≤ 1000000) : Ev (fun k => kernel_Taps.f k kd (z * 65536 + 32768)) (z - supV kd + 1, wts kd) := by
  have sb := supV_b kd
  unfold kernel_Taps.f
  simp only [kvalid_eq, Option.bind_some, decide_eq_true (show 0 ≤ kd ∧ kd ≤ 4 by omega), if_true, support_eq (show 0 ≤ kd ∧ kd ≤ 4 by omega)]
  simp only [show num_Clamp.f (z * 65536 + 32768) (-1099511627776) 1099511627776 = some (posV (z * 65536 + 32768)) from rfl, Option.bind_some]
  rw [show posV (z * 65536 + 32768) = z * 65536 + 32768 by unfold posV mn mx; split <;> split <;> omega]
  have go : ∀ s : Int, supV kd = s → (s = 1 ∨ s = 2) → Ev (fun k => kernel_Taps.l0 k kd (z * 65536 + 32768) (z - s + 1) [] (s * 65536) 0 ((z - s + 1) * 65536 + 32768)) (z - s + 1, wts kd) → Ev (fun k => (num_Floor.f (wrap64 ((wrap64 (z * 65536 + 32768 - (wrap64 (supV kd * 65536)))) - 32768)) 65536).bind fun t289 => (kernel_Taps.l0 k kd (z * 65536 + 32768) (wrap64 (t289 + 1)) ([] : List Int) (wrap64 (supV kd * 65536)) 0 (wrap64 ((wrap64 ((wrap64 (t289 + 1)) * 65536)) + 32768)))) (z - supV kd + 1, wts kd) := by
    intro s hs h12 hE
    rw [hs]
    rw [w64 (x := s * 65536) (by omega) (by omega), w64 (x := z * 65536 + 32768 - s * 65536) (by omega) (by omega), w64 (x := z * 65536 + 32768 - s * 65536 - 32768) (by omega) (by omega)]
    rw [floor_eq (a := z * 65536 + 32768 - s * 65536 - 32768) (b := 65536) (by omega) (by omega) (by omega) (by omega)]
    simp only [Option.bind_some]
    rw [show (z * 65536 + 32768 - s * 65536 - 32768) / 65536 = z - s by omega]
    rw [w64 (x := z - s + 1) (by omega) (by omega), w64 (x := (z - s + 1) * 65536) (by omega) (by omega), w64 (x := (z - s + 1) * 65536 + 32768) (by omega) (by omega)]
    exact hE
  by_cases c : kd = 2
  · subst c
    refine go 2 rfl (.inr rfl) ?_
    have e : wts 2 = [0, 65536, 0] := rfl
    rw [e]
    refine l0_step (wgt w2a) (by omega) (by omega) (by omega) (by omega) (by omega) (by simp) (by omega) ?_
    refine l0_step (wgt w20) (by omega) (by omega) (by omega) (by omega) (by omega) (by simp) (by omega) ?_
    refine l0_step (wgt w2b) (by omega) (by omega) (by omega) (by omega) (by omega) (by simp) (by omega) ?_
    refine l0_end (by omega) (by omega) (by omega) ?_
    exact l1_three _
  · refine go 1 (by unfold supV; rw [if_neg (by omega)]) (.inl rfl) ?_
    have e : wts kd = [65536] := by unfold wts; rw [if_neg c]
    have hw : Ev (fun k => kernel_Weight.f k kd 0) 65536 := by
      rcases (show kd = 0 ∨ kd = 1 ∨ kd = 3 by omega) with rfl | rfl | rfl
      · exact wgt w00
      · exact wgt w10
      · exact wgt w30
    rw [e]
    refine l0_step hw (by omega) (by omega) (by omega) (by omega) (by omega) (by simp) (by omega) ?_
    refine l0_end (by omega) (by omega) (by omega) ?_
    exact l1_one _
/-! ### The sums of one pixel -/
theorem divR_exact {b d : Int} (hb : 0 < b) : divR (b * d) b = d := by
  unfold divR
  rw [Int.mul_emod_right, if_neg (by omega), Int.mul_ediv_cancel_left _ (by omega)]
section
variable {a b : Int} (hb : 1 < b) (hb' : b ≤ 281474976710656) (h1 : 0 ≤ a) (h2 : a ≤ 4611686018427387904)
include hb hb' h1 h2
theorem floorB : num_Floor.f a b = some (a / b) := by
  obtain ⟨f1, f2⟩ := tdiv_facts a b (by omega)
  obtain ⟨s1, s2⟩ := ediv_small (show 0 < b by omega) (show -4611686018427387904 ≤ a by omega) h2
  unfold num_Floor.f
  rw [if_neg (by omega), if_neg (by omega)]
  obtain ⟨e1, e2⟩ := f1 h1
  rw [e1, e2, decide_eq_false (show ¬ a < 0 by omega), decide_eq_false (show ¬ b < 0 by omega), w64 (by omega) (by omega)]
  simp
theorem divB : Ev (fun k => num_Div.f k a b) (divR a b) := by
  obtain ⟨s1, s2⟩ := ediv_small (show 0 < b by omega) (show -4611686018427387904 ≤ a by omega) h2
  have m1 := Int.emod_nonneg a (show b ≠ 0 by omega)
  have m2 := Int.emod_lt_of_pos a (show 0 < b by omega)
  have m3 := Int.mul_ediv_add_emod a b
  have m4 : a / b * b = b * (a / b) := Int.mul_comm _ _
  unfold num_Div.f
  simp only [floorB hb hb' h1 h2, Option.bind_some, if_neg (show ¬ b = 0 by omega)]
  refine .step (f := fun _ => some (divR a b)) (fun k => ?_) (.now _)
  rw [num_Div.j0, if_neg (by simp; omega), if_pos (by omega), w64 (show -9223372036854775808 ≤ a / b * b by omega) (by omega), w64 (show -9223372036854775808 ≤ a - a / b * b by omega) (by omega), show a - a / b * b = a % b by omega, w64 (show -9223372036854775808 ≤ b - a % b by omega) (by omega), w64 (show -9223372036854775808 ≤ a / b + 1 by omega) (by omega), if_neg (show ¬ b < 0 by omega), divR]
  split <;> rfl
end
theorem mulB {b h : Int} (hb : 1 < b) (hb' : b ≤ 281474976710656) (hh : 0 ≤ h ∧ h ≤ 255) : 0 ≤ b * h ∧ b * h ≤ 71776119061217280 := by
  refine ⟨Int.mul_nonneg (by omega) hh.1, ?_⟩
  have := Int.mul_le_mul hb' hh.2 hh.1 (by omega : (0 : Int) ≤ 281474976710656)
  omega
theorem chanB {b h l : Int} (hb : 1 < b) (hb' : b ≤ 281474976710656) (hh : 0 ≤ h ∧ h ≤ 255) (hl : 0 ≤ l ∧ l ≤ 255) : num_Floor.f (b * h) b = some h ∧ Ev (fun k => num_Div.f k (wrap64 ((wrap64 (256 * (wrap64 (b * h - (wrap64 (h * b)))))) + b * l)) b) l := by
  have p := mulB hb hb' hh
  have q := mulB hb hb' hl
  constructor
  · rw [floorB hb hb' p.1 (by omega), Int.mul_ediv_cancel_left _ (by omega)]
  · have e : wrap64 ((wrap64 (256 * (wrap64 (b * h - (wrap64 (h * b)))))) + b * l) = b * l := by
      rw [Int.mul_comm h b, w64 (x := b * h) (by omega) (by omega), Int.sub_self, show wrap64 (256 * wrap64 0) = 0 by decide +kernel, Int.zero_add, w64 (by omega) (by omega)]
    rw [e]
    have d := divB hb hb' q.1 (by omega)
    rw [divR_exact (by omega)] at d
    exact d
theorem low8 {x : Int} (h : 0 ≤ x) (h' : x ≤ 65535) : Go.bits .and .i64 x 255 = x % 256 := by
  obtain ⟨a, rfl⟩ := Int.eq_ofNat_of_zero_le h
  have hx : a &&& 255 < 2 ^ 8 := Nat.and_lt_two_pow _ (by omega)
  have h1 : (BitVec.ofInt 64 (a : Int)).toNat = a := by
    rw [BitVec.ofInt_natCast, BitVec.toNat_ofNat]; exact Nat.mod_eq_of_lt (by omega)
  have h2 : (BitVec.ofInt 64 (255 : Int)).toNat = 255 := by decide
  have e : a &&& 255 = a % 256 := Nat.and_two_pow_sub_one_eq_mod a 8
  show IntKind.i64.wrap ((BitVec.ofInt 64 (a : Int) &&& BitVec.ofInt 64 (255 : Int)).toNat : Int) = _
  rw [BitVec.toNat_and, h1, h2, e, show ∀ n : Int, IntKind.i64.wrap n = wrap64 n from fun n => by simp only [IntKind.wrap, IntKind.signed, IntKind.bits, wrap64]; simp; split <;> omega, w64 (by omega) (by omega)]
  omega
theorem one_pix {p : S48} (hp : pxOkS p = true) : pixIs (addV sm0 p 4294967296) (if p.f3 = 0 then z48 else p) := by
  obtain ⟨⟨r0, r1⟩, ⟨g0, g1⟩, ⟨b0, b1⟩, ⟨a0, a1⟩⟩ := (pxOk_iff _ _ _ _).1 hp
  unfold pixIs addV
  simp only [sm0, Int.zero_add, low8 r0 r1, low8 g0 g1, low8 b0 b1]
  rw [w64 (x := 4294967296 * p.f3) (by omega) (by omega), w64 (x := 4294967296 * p.f3) (by omega) (by omega)]
  by_cases c : p.f3 = 0
  · rw [if_pos c, c]
    exact .congr (f := fun _ => _) (fun k => by unfold warp_sums_pixel.f; rw [if_pos (by decide)]; rfl) (.now _)
  rw [if_neg c]
  have hb : 1 < 4294967296 * p.f3 := by omega
  have hb' : 4294967296 * p.f3 ≤ 281474976710656 := by omega
  have dA : Ev (fun k => num_Div.f k (4294967296 * p.f3) 4294967296) p.f3 := by
    have d := divB (a := 4294967296 * p.f3) (b := 4294967296) (by omega) (by omega) (by omega) (by omega)
    rw [divR_exact (by omega)] at d
    exact d
  have cA : mn 65535 (mx p.f3 0) = p.f3 := by unfold mn mx; split <;> split <;> omega
  generalize 4294967296 * p.f3 = b at *
  have ch : ∀ x : Int, 0 ≤ x → x ≤ 65535 → (0 ≤ x / 256 ∧ x / 256 ≤ 255) ∧ (0 ≤ x % 256 ∧ x % 256 ≤ 255) ∧ mn 65535 (mx (wrap64 ((wrap64 (256 * (x / 256))) + x % 256)) 0) = x := by
    intro x h0 h1
    refine ⟨by omega, by omega, ?_⟩
    rw [w64 (x := 256 * (x / 256)) (by omega) (by omega), w64 (by omega) (by omega)]
    unfold mn mx
    split <;> split <;> omega
  obtain ⟨rh, rl, rr⟩ := ch p.f0 r0 r1
  obtain ⟨gh, gl, gg⟩ := ch p.f1 g0 g1
  obtain ⟨bh, bl, bb⟩ := ch p.f2 b0 b1
  have wr : ∀ h : Int, 0 ≤ h ∧ h ≤ 255 → wrap64 (b * h) = b * h := fun h hh => by
    have m := mulB hb hb' hh
    exact w64 (by omega) (by omega)
  have ww : ∀ h : Int, 0 ≤ h ∧ h ≤ 255 → wrap64 (wrap64 (b * h)) = b * h := fun h hh => by rw [wr h hh, wr h hh]
  rw [ww _ rh, ww _ gh, ww _ bh, ww _ rl, ww _ gl, ww _ bl]
  obtain ⟨fr, dr⟩ := chanB hb hb' rh rl
  obtain ⟨fg, dg⟩ := chanB hb hb' gh gl
  obtain ⟨fb, db⟩ := chanB hb hb' bh bl
  have c0 : Ev (fun k => warp_sums_channel.f k b (b * (p.f0 / 256)) (b * (p.f1 / 256)) (b * (p.f2 / 256)) (b * (p.f0 % 256)) (b * (p.f1 % 256)) (b * (p.f2 % 256)) 0) (p.f0, b, b * (p.f0 / 256), b * (p.f1 / 256), b * (p.f2 / 256), b * (p.f0 % 256), b * (p.f1 % 256), b * (p.f2 % 256)) := by
    unfold warp_sums_channel.f
    simp only [if_true, fr, Option.bind_some]
    refine dr.bind ?_
    unfold num_Clamp.f
    simp only [Option.bind_some, rr]
    exact .now _
  have c1 : Ev (fun k => warp_sums_channel.f k b (b * (p.f0 / 256)) (b * (p.f1 / 256)) (b * (p.f2 / 256)) (b * (p.f0 % 256)) (b * (p.f1 % 256)) (b * (p.f2 % 256)) 1) (p.f1, b, b * (p.f0 / 256), b * (p.f1 / 256), b * (p.f2 / 256), b * (p.f0 % 256), b * (p.f1 % 256), b * (p.f2 % 256)) := by
    unfold warp_sums_channel.f
    simp only [if_neg (show ¬ (1 : Int) = 0 by decide), if_true, fg, Option.bind_some]
    refine dg.bind ?_
    unfold num_Clamp.f
    simp only [Option.bind_some, gg]
    exact .now _
  have c2 : Ev (fun k => warp_sums_channel.f k b (b * (p.f0 / 256)) (b * (p.f1 / 256)) (b * (p.f2 / 256)) (b * (p.f0 % 256)) (b * (p.f1 % 256)) (b * (p.f2 % 256)) 2) (p.f2, b, b * (p.f0 / 256), b * (p.f1 / 256), b * (p.f2 / 256), b * (p.f0 % 256), b * (p.f1 % 256), b * (p.f2 % 256)) := by
    unfold warp_sums_channel.f
    simp only [if_neg (show ¬ (2 : Int) = 0 by decide), if_neg (show ¬ (2 : Int) = 1 by decide), if_true, fb, Option.bind_some]
    refine db.bind ?_
    unfold num_Clamp.f
    simp only [Option.bind_some, bb]
    exact .now _
  unfold warp_sums_pixel.f
  simp only [if_neg (show ¬ b ≤ 0 by omega)]
  refine dA.bind ?_
  unfold num_Clamp.f
  simp only [Option.bind_some, cA, if_neg c]
  refine c0.bind ?_
  refine c1.bind ?_
  refine c2.bind ?_
  exact .now _
/-- Sums that are numbers of the machine. -/
def okS (s : Sm) : Prop := ∀ x ∈ [s.a0, s.a1, s.a2, s.a3, s.a4, s.a5, s.a6], -9223372036854775808 ≤ x ∧ x ≤ 9223372036854775807
theorem add0 {s : Sm} (h : okS s) (p : S48) : addV s p 0 = s := by
  have e : ∀ x ∈ [s.a0, s.a1, s.a2, s.a3, s.a4, s.a5, s.a6], wrap64 (x + 0) = x := fun x hx => by rw [Int.add_zero]; exact w64 (h x hx).1 (h x hx).2
  unfold addV
  simp only [Int.zero_mul, show wrap64 0 = 0 by decide +kernel]
  rw [e _ (by simp), e _ (by simp), e _ (by simp), e _ (by simp), e _ (by simp), e _ (by simp), e _ (by simp)]
theorem okS_0 : okS sm0 := by
  intro x hx
  simp [sm0] at hx
  omega
theorem wrap_b (x : Int) : -9223372036854775808 ≤ wrap64 x ∧ wrap64 x ≤ 9223372036854775807 := by unfold wrap64; omega
theorem okS_add (s : Sm) (p : S48) (w : Int) : okS (addV s p w) := by
  intro x hx
  simp only [addV, List.mem_cons, List.not_mem_nil, or_false] at hx
  rcases hx with rfl | rfl | rfl | rfl | rfl | rfl | rfl <;> exact wrap_b _
theorem col_exact {kd : Int} (hk : 0 ≤ kd ∧ kd ≤ 3) (nr : Int → Int → S48) {u v : Int} (hu : -1000000 ≤ u ∧ u ≤ 1000000) (hv : -1000000 ≤ v ∧ v ≤ 1000000) : colS nr (u - supV kd + 1) (wts kd) (v - supV kd + 1) (wts kd) 0 sm0 = addV sm0 (nr u v) 4294967296 := by
  by_cases c : kd = 2
  · subst c
    have e : wts 2 = [0, 65536, 0] := rfl
    have s2 : supV 2 = 2 := rfl
    rw [e, s2]
    simp only [colS, rowS, show wrap64 (0 * 0) = 0 by decide +kernel, show wrap64 (65536 * 0) = 0 by decide +kernel, show wrap64 (0 * 65536) = 0 by decide +kernel, show wrap64 (65536 * 65536) = 4294967296 by decide +kernel, show (0 : Int) + 1 = 1 from rfl, add0 okS_0]
    rw [w64 (x := u - 2 + 1 + 1) (by omega) (by omega), w64 (x := v - 2 + 1 + 1) (by omega) (by omega), show u - 2 + 1 + 1 = u by omega, show v - 2 + 1 + 1 = v by omega]
    simp only [add0 (okS_add _ _ _)]
  · have e : wts kd = [65536] := by unfold wts; rw [if_neg c]
    have s1 : supV kd = 1 := by unfold supV; rw [if_neg (by omega)]
    rw [e, s1]
    simp only [colS, rowS, show wrap64 (65536 * 65536) = 4294967296 by decide +kernel]
    rw [w64 (x := u - 1 + 1 + 0) (by omega) (by omega), w64 (x := v - 1 + 1 + 0) (by omega) (by omega), show u - 1 + 1 + 0 = u by omega, show v - 1 + 1 + 0 = v by omega]
/-! ### A mesh of equal displacements -/
theorem flat_at (d : S28) (x y : Int) (v : S28 → Int) : atV 2 2 3 [d, d, d, d] x y v = v d := by
  obtain ⟨_, _, _, _, a1, a2, a3, a4, _⟩ := cell_b (x := x) (p := 2) (s := 3) (by omega) (by omega) (by omega) (by omega)
  obtain ⟨_, _, _, _, b1, b2, b3, b4, _⟩ := cell_b (x := y) (p := 2) (s := 3) (by omega) (by omega) (by omega) (by omega)
  have e1 : ci x 2 3 = 0 := by omega
  have e2 : ci y 2 3 = 0 := by omega
  unfold atV
  rw [e1, e2]
  generalize cf x 2 3 = f at *
  generalize cf y 2 3 = g at *
  have r0 : rd_T28 [d, d, d, d] (0 * 2 + 0) = d := rfl
  have r1 : rd_T28 [d, d, d, d] (0 * 2 + 0 + 1) = d := rfl
  have r2 : rd_T28 [d, d, d, d] ((0 + 1) * 2 + 0) = d := rfl
  have r3 : rd_T28 [d, d, d, d] ((0 + 1) * 2 + 0 + 1) = d := rfl
  rw [r0, r1, r2, r3]
  have sum : mixV 3 f g (v d) (v d) (v d) (v d) = (3 * 3) * v d := by
    unfold mixV
    rw [← Int.add_mul, ← Int.add_mul, ← Int.add_mul]
    congr 1
    have e : (3 - f) * (3 - g) + f * (3 - g) = 3 * (3 - g) := by rw [← Int.add_mul]; congr 1; omega
    have e' : (3 - f) * g + f * g = 3 * g := by rw [← Int.add_mul]; congr 1; omega
    omega
  rw [sum, divR_exact (by decide)]
end Go.Proofs.Ytnfbabmceddciaa.Pure
