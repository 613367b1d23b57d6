/- RasterFlips in plain words: Flip and Box compute what the specification computes. For every image and kind. -/
import Derived.Test.YtjepbimgddgijaaPFlipE
import Derived.Test.YtjepbimgddgijaaPBox
import Derived.Test.YtjepbimgddgijaaG18
namespace Go.Proofs.Ytjepbimgddgijaa.Pure
open Go.RowKit Go.Proofs.YtjepbimgddgijaaW.PrintWords Go.Proofs.YtjepbimgddgijaaW.PrintLast Go.Proofs.YtjepbimgddgijaaW.PrintMore Go.Proofs.Ytjepbimgddgijaa.G
set_option linter.unusedVariables false
set_option linter.unusedSimpArgs false

theorem fill_small' {w h : Int} (hw : w ≤ 256) (hh : h ≤ 256) (g : Int → Int → S26) : ((fillL w.toNat (h.toNat * w.toNat) g).length : Int) ≤ 65536 := by
  rw [fillL_length]
  have := Nat.mul_le_mul (show h.toNat ≤ 256 by omega) (show w.toNat ≤ 256 by omega)
  omega
theorem flipR_small (W H : Int) (l : List S26) (kind : Int) : ((flipR W H l kind).2.2.1.length : Int) ≤ 65536 := by
  unfold flipR
  by_cases hc : chk W H l = 0
  case neg => rw [if_neg hc]; simp
  rw [if_pos hc]
  have hs := (sidesOk_iff W H).1 (chk_ok hc).1
  by_cases k1 : kind = 1
  · rw [if_pos k1]; exact fill_small' (w := W) (h := H) (by omega) (by omega) _
  rw [if_neg k1]
  by_cases k2 : kind = 2
  · rw [if_pos k2]; exact fill_small' (w := W) (h := H) (by omega) (by omega) _
  rw [if_neg k2]
  by_cases k3 : kind = 3
  · rw [if_pos k3]; exact fill_small' (w := H) (h := W) (by omega) (by omega) _
  rw [if_neg k3]
  by_cases k4 : kind = 4
  · rw [if_pos k4]; exact fill_small' (w := W) (h := H) (by omega) (by omega) _
  rw [if_neg k4]
  simp
theorem RasterFlips : ∀ (a0_0 : Int) (a0_1 : Int) (a0_2 : List S26) (a1 : Int), ((Lit.int .i64 a0_0).wf = true ∧ (Lit.int .i64 a0_1).wf = true ∧ (a0_2.length ≤ maxLen ∧ ∀ x ∈ a0_2, (Lit.int .i64 x.f0).wf = true ∧ (Lit.int .i64 x.f1).wf = true ∧ (Lit.int .i64 x.f2).wf = true ∧ (Lit.int .i64 x.f3).wf = true)) → (Lit.int .i64 a1).wf = true → ∃ k, imageeditorlaw11_RasterFlips.f k a0_0 a0_1 a0_2 a1 = some true := by
  intro W H l kind _ _
  refine Ev.rounds ((flip_eq W H l kind).bind ((flip_eq' W H l kind).bind (awake_eq.bind ?_)))
  simp only [if_true]
  refine (same_eq _ (flipR_small W H l kind) _ _).bind ?_
  simp only [if_true]
  refine (box_eq W H l).bind ((box_eq' W H l).bind ?_)
  simp only [beq_self_eq_true, Bool.and_self]
  exact .now _
end Go.Proofs.Ytjepbimgddgijaa.Pure
