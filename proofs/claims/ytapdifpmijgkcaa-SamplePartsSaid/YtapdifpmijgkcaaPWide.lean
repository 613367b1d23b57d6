/- The number of bits, the quotient of two words by one, and the rounded quotient of a sum always answer. -/
import Derived.Test.YtapdifpmijgkcaaPDivP
import Derived.Test.YtapdifpmijgkcaaG5
import Derived.Test.YtapdifpmijgkcaaG6
namespace Go.Proofs.Ytapdifpmijgkcaa.Pure
open Go.RowKit Go.Proofs.YtapdifpmijgkcaaW.PrintWords Go.Proofs.YtapdifpmijgkcaaW.PrintLast Go.Proofs.YtapdifpmijgkcaaW.PrintMore Go.Proofs.Ytapdifpmijgkcaa.G
set_option linter.unusedVariables false
set_option linter.unusedSimpArgs false
set_option linter.unusedSectionVars false
/-- The table of the number of bits of a byte. -/
def t8 : ByteArray := (⟨#[0, 1, 2, 2, 3, 3, 3, 3, 4, 4, 4, 4, 4, 4, 4, 4, 5, 5, 5, 5, 5, 5, 5, 5, 5, 5, 5, 5, 5, 5, 5, 5, 6, 6, 6, 6, 6, 6, 6, 6, 6, 6, 6, 6, 6, 6, 6, 6, 6, 6, 6, 6, 6, 6, 6, 6, 6, 6, 6, 6, 6, 6, 6, 6, 7, 7, 7, 7, 7, 7, 7, 7, 7, 7, 7, 7, 7, 7, 7, 7, 7, 7, 7, 7, 7, 7, 7, 7, 7, 7, 7, 7, 7, 7, 7, 7, 7, 7, 7, 7, 7, 7, 7, 7, 7, 7, 7, 7, 7, 7, 7, 7, 7, 7, 7, 7, 7, 7, 7, 7, 7, 7, 7, 7, 7, 7, 7, 7, 8, 8, 8, 8, 8, 8, 8, 8, 8, 8, 8, 8, 8, 8, 8, 8, 8, 8, 8, 8, 8, 8, 8, 8, 8, 8, 8, 8, 8, 8, 8, 8, 8, 8, 8, 8, 8, 8, 8, 8, 8, 8, 8, 8, 8, 8, 8, 8, 8, 8, 8, 8, 8, 8, 8, 8, 8, 8, 8, 8, 8, 8, 8, 8, 8, 8, 8, 8, 8, 8, 8, 8, 8, 8, 8, 8, 8, 8, 8, 8, 8, 8, 8, 8, 8, 8, 8, 8, 8, 8, 8, 8, 8, 8, 8, 8, 8, 8, 8, 8, 8, 8, 8, 8, 8, 8, 8, 8, 8, 8, 8, 8, 8, 8, 8, 8, 8, 8, 8, 8, 8, 8, 8, 8, 8, 8, 8, 8]⟩ : ByteArray)
theorem t8_ok : ∀ i : Fin 256, ∃ k : Fin 9, bt t8 ((i.val : Nat) : Int) = ((k.val : Nat) : Int) ∧ i.val < 2 ^ k.val ∧ (i.val ≠ 0 → 1 ≤ k.val ∧ 2 ^ (k.val - 1) ≤ i.val) := by decide +kernel
theorem t8_at {i : Int} (h : 1 ≤ i) (h' : i < 256) : ∃ k : Nat, bt t8 i = (k : Int) ∧ 1 ≤ k ∧ k ≤ 8 ∧ 2 ^ (k - 1) ≤ i ∧ i < 2 ^ k := by
  obtain ⟨a, rfl⟩ := Int.eq_ofNat_of_zero_le (show 0 ≤ i by omega)
  obtain ⟨k, h1, h2, h3⟩ := t8_ok ⟨a, by omega⟩
  obtain ⟨h4, h5⟩ := h3 (by show a ≠ 0; omega)
  refine ⟨k.val, h1, h4, by omega, ?_, ?_⟩
  · have h6 : 2 ^ (k.val - 1) ≤ a := h5
    exact_mod_cast h6
  · have h6 : a < 2 ^ k.val := h2
    exact_mod_cast h6
theorem u64_b (x : Int) : 0 ≤ IntKind.u64.wrap x ∧ IntKind.u64.wrap x < 18446744073709551616 := by
  have e : IntKind.u64.wrap x = x % 18446744073709551616 := by simp [IntKind.wrap, IntKind.bits, IntKind.signed]
  rw [e]; omega
/-- A number's bits by the bits of its upper byte. -/
theorem up_bits {m k : Nat} {a b : Int} (hb : b = a / 2 ^ m) (hk : 1 ≤ k) (h1 : (2 : Int) ^ (k - 1) ≤ b) (h2 : b < 2 ^ k) : (2 : Int) ^ (m + k - 1) ≤ a ∧ a < 2 ^ (m + k) := by
  have pm : (0 : Int) < 2 ^ m := Int.pow_pos (by decide)
  have e := Int.mul_ediv_add_emod a (2 ^ m)
  have m1 := Int.emod_nonneg a (show (2 : Int) ^ m ≠ 0 by omega)
  have m2 := Int.emod_lt_of_pos a pm
  rw [← hb] at e
  have l1 := Int.mul_le_mul_of_nonneg_left h1 (show (0 : Int) ≤ 2 ^ m by omega)
  have l2 := Int.mul_le_mul_of_nonneg_left (show b + 1 ≤ 2 ^ k by omega) (show (0 : Int) ≤ 2 ^ m by omega)
  rw [show m + k - 1 = m + (k - 1) by omega, Int.pow_add, Int.pow_add]
  rw [Int.mul_add, Int.mul_one] at l2
  omega
theorem len_at {x d : Int} {k : Nat} (hk : bt t8 x = (k : Int)) (h8 : k ≤ 8) (hd : 0 ≤ d ∧ d ≤ 56) : wrap64 (d + wrap64 (bt t8 x)) = d + (k : Int) := by
  rw [hk, w64 (x := (k : Int)) (by omega) (by omega), w64 (by omega) (by omega)]
theorem len64_1 {a : Int} (h : 1 ≤ a) (h' : a < 18446744073709551616) : ∃ n : Nat, bits_Len64.f 1 a = some (n : Int) ∧ 1 ≤ n ∧ n ≤ 64 ∧ (2 : Int) ^ (n - 1) ≤ a ∧ a < 2 ^ n := by
  have fin : ∀ (m : Nat) (d x : Int), d = (m : Int) → m ≤ 56 → x = a / 2 ^ m → 1 ≤ x → x < 256 → ∃ n : Nat, some (wrap64 (d + wrap64 (bt t8 x))) = some (n : Int) ∧ 1 ≤ n ∧ n ≤ 64 ∧ (2 : Int) ^ (n - 1) ≤ a ∧ a < 2 ^ n := by
    intro m d x hd hm hx h1 h2
    obtain ⟨k, e, k1, k8, p1, p2⟩ := t8_at h1 h2
    obtain ⟨q1, q2⟩ := up_bits hx k1 p1 p2
    refine ⟨m + k, ?_, by omega, by omega, q1, q2⟩
    rw [len_at e k8 (by omega), hd]
    rfl
  have s24 : wrap64 (wrap64 (0 + 16) + 8) = 24 := by decide +kernel
  have s16 : wrap64 (0 + 16) = 16 := by decide +kernel
  have s8 : wrap64 (0 + 8) = 8 := by decide +kernel
  have s56 : wrap64 (wrap64 (32 + 16) + 8) = 56 := by decide +kernel
  have s48 : wrap64 (32 + 16) = 48 := by decide +kernel
  have s40 : wrap64 (32 + 8) = 40 := by decide +kernel
  have hT : (⟨#[0, 1, 2, 2, 3, 3, 3, 3, 4, 4, 4, 4, 4, 4, 4, 4, 5, 5, 5, 5, 5, 5, 5, 5, 5, 5, 5, 5, 5, 5, 5, 5, 6, 6, 6, 6, 6, 6, 6, 6, 6, 6, 6, 6, 6, 6, 6, 6, 6, 6, 6, 6, 6, 6, 6, 6, 6, 6, 6, 6, 6, 6, 6, 6, 7, 7, 7, 7, 7, 7, 7, 7, 7, 7, 7, 7, 7, 7, 7, 7, 7, 7, 7, 7, 7, 7, 7, 7, 7, 7, 7, 7, 7, 7, 7, 7, 7, 7, 7, 7, 7, 7, 7, 7, 7, 7, 7, 7, 7, 7, 7, 7, 7, 7, 7, 7, 7, 7, 7, 7, 7, 7, 7, 7, 7, 7, 7, 7, 8, 8, 8, 8, 8, 8, 8, 8, 8, 8, 8, 8, 8, 8, 8, 8, 8, 8, 8, 8, 8, 8, 8, 8, 8, 8, 8, 8, 8, 8, 8, 8, 8, 8, 8, 8, 8, 8, 8, 8, 8, 8, 8, 8, 8, 8, 8, 8, 8, 8, 8, 8, 8, 8, 8, 8, 8, 8, 8, 8, 8, 8, 8, 8, 8, 8, 8, 8, 8, 8, 8, 8, 8, 8, 8, 8, 8, 8, 8, 8, 8, 8, 8, 8, 8, 8, 8, 8, 8, 8, 8, 8, 8, 8, 8, 8, 8, 8, 8, 8, 8, 8, 8, 8, 8, 8, 8, 8, 8, 8, 8, 8, 8, 8, 8, 8, 8, 8, 8, 8, 8, 8, 8, 8, 8, 8, 8, 8]⟩ : ByteArray) = t8 := rfl
  unfold bits_Len64.f
  by_cases c : a ≥ 4294967296
  · rw [if_pos c, bits_Len64.j0, hT]
    by_cases c1 : a / 4294967296 ≥ 65536
    · rw [if_pos c1]
      by_cases c2 : a / 4294967296 / 65536 ≥ 256
      · rw [if_pos c2, if_pos (by omega), if_pos (by omega), s56]
        exact fin 56 56 _ rfl (by omega) (by omega) (by omega) (by omega)
      · rw [if_neg c2, if_pos (by omega), if_pos (by omega), s48]
        exact fin 48 48 _ rfl (by omega) (by omega) (by omega) (by omega)
    · rw [if_neg c1]
      by_cases c2 : a / 4294967296 ≥ 256
      · rw [if_pos c2, if_pos (by omega), if_pos (by omega), s40]
        exact fin 40 40 _ rfl (by omega) (by omega) (by omega) (by omega)
      · rw [if_neg c2, if_pos (by omega), if_pos (by omega)]
        exact fin 32 32 _ rfl (by omega) (by omega) (by omega) (by omega)
  · rw [if_neg c, bits_Len64.j0, hT]
    by_cases c1 : a ≥ 65536
    · rw [if_pos c1]
      by_cases c2 : a / 65536 ≥ 256
      · rw [if_pos c2, if_pos (by omega), if_pos (by omega), s24]
        exact fin 24 24 _ rfl (by omega) (by omega) (by omega) (by omega)
      · rw [if_neg c2, if_pos (by omega), if_pos (by omega), s16]
        exact fin 16 16 _ rfl (by omega) (by omega) (by omega) (by omega)
    · rw [if_neg c1]
      by_cases c2 : a ≥ 256
      · rw [if_pos c2, if_pos (by omega), if_pos (by omega), s8]
        exact fin 8 8 _ rfl (by omega) (by omega) (by omega) (by omega)
      · rw [if_neg c2, if_pos (by omega), if_pos (by omega)]
        exact fin 0 0 _ rfl (by omega) (by omega) (by omega) (by omega)
/-! ### The quotient of two words by one -/
section
variable {x8 x9 : Int} (h8 : 0 ≤ x8) (h9 : 2147483648 ≤ x9) (h9' : x9 < 4294967296) (x2 x10 x14 x15 : Int)
include h8 h9 h9'
theorem div_j4 (x16 x17 x18 : Int) (b : Bool) (again : ∀ y16 y18, y16 = IntKind.u64.wrap (x16 + x9) → y16 < 4294967296 → ∃ R, Ev (fun k => bits_Div64.l1 k x2 x8 x9 x10 x14 x15 y16 x17 y18) R ∧ 0 ≤ R.1) : ∃ R, Ev (fun k => bits_Div64.j4 k x2 x8 x9 x10 x14 x15 x16 x17 x18 b) R ∧ 0 ≤ R.1 := by
  cases b with
  | false => exact ⟨_, .step (f := fun _ => some _) (fun k => by rw [bits_Div64.j4, if_neg (by simp), if_pos h8]) (.now _), (u64_b _).1⟩
  | true =>
    by_cases c : IntKind.u64.wrap (x16 + x9) ≥ 4294967296
    · exact ⟨_, .step (f := fun _ => some _) (fun k => by rw [bits_Div64.j4, if_pos rfl, if_pos c, if_pos h8]) (.now _), (u64_b _).1⟩
    · obtain ⟨R, hR, h0⟩ := again _ (IntKind.u64.wrap (x18 - 1)) rfl (by omega)
      exact ⟨R, .step (fun k => by rw [bits_Div64.j4, if_pos rfl, if_neg c]) hR, h0⟩
theorem div_l1s (x16 x17 x18 : Int) (again : ∀ y16 y18, y16 = IntKind.u64.wrap (x16 + x9) → y16 < 4294967296 → ∃ R, Ev (fun k => bits_Div64.l1 k x2 x8 x9 x10 x14 x15 y16 x17 y18) R ∧ 0 ≤ R.1) : ∃ R, Ev (fun k => bits_Div64.l1 k x2 x8 x9 x10 x14 x15 x16 x17 x18) R ∧ 0 ≤ R.1 := by
  by_cases c : x18 ≥ 4294967296
  · obtain ⟨R, hR, h0⟩ := div_j4 h8 h9 h9' x2 x10 x14 x15 x16 x17 x18 true again
    exact ⟨R, .step (fun k => by rw [bits_Div64.l1, if_pos c]) hR, h0⟩
  · obtain ⟨R, hR, h0⟩ := div_j4 h8 h9 h9' x2 x10 x14 x15 x16 x17 x18 _ again
    exact ⟨R, .step (fun k => by rw [bits_Div64.l1, if_neg c]) hR, h0⟩
theorem u64_up {x y : Int} (h : 0 ≤ x) (h' : x < 4294967296) (hy : 0 ≤ y) (hy' : y < 4294967296) : IntKind.u64.wrap (x + y) = x + y := u64_id (by omega) (by omega)
theorem div_l1 (x16 x17 x18 : Int) : ∃ R, Ev (fun k => bits_Div64.l1 k x2 x8 x9 x10 x14 x15 x16 x17 x18) R ∧ 0 ≤ R.1 := by
  have s2 : ∀ y16 y18, 2147483648 ≤ y16 → y16 < 4294967296 → ∃ R, Ev (fun k => bits_Div64.l1 k x2 x8 x9 x10 x14 x15 y16 x17 y18) R ∧ 0 ≤ R.1 := fun y16 y18 a b => div_l1s h8 h9 h9' x2 x10 x14 x15 y16 x17 y18 (fun z16 z18 e l => by rw [u64_id (by omega) (by omega)] at e; omega)
  have s1 : ∀ y16 y18, 0 ≤ y16 → y16 < 4294967296 → ∃ R, Ev (fun k => bits_Div64.l1 k x2 x8 x9 x10 x14 x15 y16 x17 y18) R ∧ 0 ≤ R.1 := fun y16 y18 a b => div_l1s h8 h9 h9' x2 x10 x14 x15 y16 x17 y18 (fun z16 z18 e l => by rw [u64_id (by omega) (by omega)] at e; exact s2 z16 z18 (by omega) l)
  exact div_l1s h8 h9 h9' x2 x10 x14 x15 x16 x17 x18 (fun z16 z18 e l => s1 z16 z18 (by rw [e]; exact (u64_b _).1) l)
theorem div_j2 (x11 x13 y15 : Int) : ∃ R, Ev (fun k => bits_Div64.j2 k x2 x8 x9 x10 x11 x13 x14 y15) R ∧ 0 ≤ R.1 := by
  obtain ⟨R, hR, h0⟩ := div_l1 h8 h9 h9' x2 x10 x14 y15 _ _ _
  exact ⟨R, .step (fun k => by rw [bits_Div64.j2, if_neg (by omega)]) hR, h0⟩
theorem div_l0s (x11 x13 y15 x16 : Int) (again : ∀ z15 z16, z16 = IntKind.u64.wrap (x16 + x9) → z16 < 4294967296 → ∃ R, Ev (fun k => bits_Div64.l0 k x2 x8 x9 x10 x11 x13 x14 z15 z16) R ∧ 0 ≤ R.1) : ∃ R, Ev (fun k => bits_Div64.l0 k x2 x8 x9 x10 x11 x13 x14 y15 x16) R ∧ 0 ≤ R.1 := by
  have j : ∀ b : Bool, ∃ R, Ev (fun k => bits_Div64.j1 k x2 x8 x9 x10 x11 x13 x14 y15 x16 b) R ∧ 0 ≤ R.1 := by
    intro b
    cases b with
    | false =>
      obtain ⟨R, hR, h0⟩ := div_j2 h8 h9 h9' x2 x10 x14 x11 x13 y15
      exact ⟨R, .step (fun k => by rw [bits_Div64.j1, if_neg (by simp)]) hR, h0⟩
    | true =>
      by_cases c : IntKind.u64.wrap (x16 + x9) ≥ 4294967296
      · obtain ⟨R, hR, h0⟩ := div_j2 h8 h9 h9' x2 x10 x14 x11 x13 (IntKind.u64.wrap (y15 - 1))
        exact ⟨R, .step (fun k => by rw [bits_Div64.j1, if_pos rfl, if_pos c]) hR, h0⟩
      · obtain ⟨R, hR, h0⟩ := again (IntKind.u64.wrap (y15 - 1)) _ rfl (by omega)
        exact ⟨R, .step (fun k => by rw [bits_Div64.j1, if_pos rfl, if_neg c]) hR, h0⟩
  by_cases c : y15 ≥ 4294967296
  · obtain ⟨R, hR, h0⟩ := j true
    exact ⟨R, .step (fun k => by rw [bits_Div64.l0, if_pos c]) hR, h0⟩
  · obtain ⟨R, hR, h0⟩ := j _
    exact ⟨R, .step (fun k => by rw [bits_Div64.l0, if_neg c]) hR, h0⟩
theorem div_l0 (x11 x13 y15 x16 : Int) : ∃ R, Ev (fun k => bits_Div64.l0 k x2 x8 x9 x10 x11 x13 x14 y15 x16) R ∧ 0 ≤ R.1 := by
  have s2 : ∀ z15 z16, 2147483648 ≤ z16 → z16 < 4294967296 → ∃ R, Ev (fun k => bits_Div64.l0 k x2 x8 x9 x10 x11 x13 x14 z15 z16) R ∧ 0 ≤ R.1 := fun z15 z16 a b => div_l0s h8 h9 h9' x2 x10 x14 x11 x13 z15 z16 (fun u15 u16 e l => by rw [u64_id (by omega) (by omega)] at e; omega)
  have s1 : ∀ z15 z16, 0 ≤ z16 → z16 < 4294967296 → ∃ R, Ev (fun k => bits_Div64.l0 k x2 x8 x9 x10 x11 x13 x14 z15 z16) R ∧ 0 ≤ R.1 := fun z15 z16 a b => div_l0s h8 h9 h9' x2 x10 x14 x11 x13 z15 z16 (fun u15 u16 e l => by rw [u64_id (by omega) (by omega)] at e; exact s2 u15 u16 (by omega) l)
  exact div_l0s h8 h9 h9' x2 x10 x14 x11 x13 y15 x16 (fun u15 u16 e l => s1 u15 u16 (by rw [e]; exact (u64_b _).1) l)
end
theorem ex_bind {α : Type} {g : Nat → Option Int} {F : Nat → Int → Option α} {a : Int} {P : α → Prop} (h : Ev g a) (hE : ∃ R, Ev (fun k => F k a) R ∧ P R) : ∃ R, Ev (fun k => (g k).bind (F k)) R ∧ P R := by
  obtain ⟨R, hR, hP⟩ := hE
  exact ⟨R, h.bind hR, hP⟩
theorem div64_tot {a0 a1 a2 : Int} (h : 1 ≤ a2) (h' : a2 < 18446744073709551616) (hlt : ¬ a2 ≤ a0) : ∃ R, Ev (fun k => bits_Div64.f k a0 a1 a2) R ∧ 0 ≤ R.1 := by
  unfold bits_Div64.f
  simp only [if_neg (show ¬ a2 = 0 by omega), if_neg hlt]
  by_cases c : a0 = 0
  · simp only [if_pos c]
    exact ⟨_, .now _, (u64_b _).1⟩
  simp only [if_neg c]
  obtain ⟨n, hn, n1, n64, p1, p2⟩ := len64_1 h h'
  have hz : Ev (fun k => bits_LeadingZeros64.f k a2) (64 - (n : Int)) := by
    unfold bits_LeadingZeros64.f
    refine (Ev.of (bits_Len64.mono a2) hn).bind ?_
    rw [w64 (x := 64 - (n : Int)) (by omega) (by omega)]
    exact .now _
  have e1 : IntKind.u64.wrap (64 - (n : Int)) = 64 - (n : Int) := u64_id (by omega) (by omega)
  have e2 : IntKind.u64.wrap (64 - (64 - (n : Int))) = (n : Int) := by rw [show 64 - (64 - (n : Int)) = n by omega]; exact u64_id (by omega) (by omega)
  have es : shl .u64 a2 (64 - (n : Int)) = a2 * 2 ^ (64 - n) := by
    have t1 : (64 - (n : Int)).toNat = 64 - n := by omega
    have q0 : (0 : Int) ≤ 2 ^ (64 - n) := Int.pow_nonneg (by decide)
    have q2 := Int.mul_le_mul_of_nonneg_right (show a2 ≤ 2 ^ n - 1 by omega) q0
    have q3 : (2 : Int) ^ n * 2 ^ (64 - n) = 18446744073709551616 := by rw [← Int.pow_add, show n + (64 - n) = 64 by omega]; rfl
    rw [Int.sub_mul, q3, Int.one_mul] at q2
    have q4 : (0 : Int) < 2 ^ (64 - n) := Int.pow_pos (by decide)
    unfold shl
    rw [t1, show min (64 - n) IntKind.u64.bits = 64 - n from Nat.min_eq_left (by show 64 - n ≤ 64; omega)]
    exact u64_id (Int.mul_nonneg (by omega) q0) (by omega)
  have bd : 9223372036854775808 ≤ a2 * 2 ^ (64 - n) ∧ a2 * 2 ^ (64 - n) < 18446744073709551616 := by
    have q0 : (0 : Int) ≤ 2 ^ (64 - n) := Int.pow_nonneg (by decide)
    have q1 := Int.mul_le_mul_of_nonneg_right p1 q0
    have q2 := Int.mul_le_mul_of_nonneg_right (show a2 ≤ 2 ^ n - 1 by omega) q0
    have q3 : (2 : Int) ^ n * 2 ^ (64 - n) = 18446744073709551616 := by rw [← Int.pow_add, show n + (64 - n) = 64 by omega]; rfl
    have q5 : (2 : Int) ^ (n - 1) * 2 ^ (64 - n) = 9223372036854775808 := by rw [← Int.pow_add, show n - 1 + (64 - n) = 63 by omega]; rfl
    rw [Int.sub_mul, q3, Int.one_mul] at q2
    have q4 : (0 : Int) < 2 ^ (64 - n) := Int.pow_pos (by decide)
    omega
  refine ex_bind hz ?_
  simp only [e1, e2, if_pos (show (0 : Int) ≤ 64 - (n : Int) by omega), if_pos (show (0 : Int) ≤ (n : Int) by omega), if_neg (show ¬ shl .u64 a2 (64 - (n : Int)) / 4294967296 = 0 by rw [es]; omega)]
  exact div_l0 (by omega) (by rw [es]; omega) (by rw [es]; omega) _ _ _ _ _ _ _
/-- The rounded quotient of a sum answers, a unit value. -/
theorem over_tot (s0 s1 : Int) {d : Int} (h : 1 ≤ d) (h' : d ≤ 9223372036854775807) : ∃ r, Ev (fun k => sample_sum_over.f k s0 s1 d) r ∧ 0 ≤ r ∧ r ≤ 65535 := by
  have ed : IntKind.u64.wrap d = d := u64_id (by omega) (by omega)
  have fin : ∀ x : Int, 0 ≤ x → 0 ≤ wrap64 (mn x 65535) ∧ wrap64 (mn x 65535) ≤ 65535 := by
    intro x hx
    have m : 0 ≤ mn x 65535 ∧ mn x 65535 ≤ 65535 := by unfold mn; split <;> omega
    rw [w64 (x := mn x 65535) (by omega) (by omega)]
    exact m
  unfold sample_sum_over.f
  by_cases c : wrap64 (s0 + s1 / 4294967296) < 0
  · simp only [if_pos c]
    exact ⟨_, .now _, by omega, by omega⟩
  simp only [if_neg c, ed]
  by_cases c1 : IntKind.u64.wrap (wrap64 (s0 + s1 / 4294967296)) / 4294967296 ≥ d
  · simp only [if_pos c1]
    exact ⟨_, .now _, by omega, by omega⟩
  simp only [if_neg c1]
  obtain ⟨R, hR, h0⟩ := div64_tot (a0 := IntKind.u64.wrap (wrap64 (s0 + s1 / 4294967296)) / 4294967296) (a1 := Go.bits .or .u64 (IntKind.u64.wrap ((IntKind.u64.wrap (wrap64 (s0 + (s1 / 4294967296)))) * 4294967296)) (IntKind.u64.wrap (Go.bits .and .i64 s1 4294967295))) h (by omega) (by omega)
  by_cases c2 : R.2 ≥ IntKind.u64.wrap (d - R.2)
  · exact ⟨_, hR.bind (by simp only [if_pos c2]; exact .now _), fin _ (u64_b _).1⟩
  · exact ⟨_, hR.bind (by simp only [if_neg c2]; exact .now _), fin _ h0⟩
end Go.Proofs.Ytapdifpmijgkcaa.Pure
