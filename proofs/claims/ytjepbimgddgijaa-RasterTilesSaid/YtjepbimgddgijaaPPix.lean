/- Images and their pixels: equal images, an image that is computed pixel by pixel; loops over rows with a state; a valid image is full. No conditions. -/
import Derived.Test.YtjepbimgddgijaaPAll
import Derived.Test.YtjepbimgddgijaaG21
namespace Go.Proofs.Ytjepbimgddgijaa.Pure
open Go.RowKit Go.Proofs.YtjepbimgddgijaaW.PrintWords Go.Proofs.YtjepbimgddgijaaW.PrintLast Go.Proofs.YtjepbimgddgijaaW.PrintMore Go.Proofs.Ytjepbimgddgijaa.G
set_option linter.unusedVariables false
set_option linter.unusedSimpArgs false
theorem ext_rdS {V V' : List S26} (hl : V.length = V'.length) (h : ∀ i : Int, 0 ≤ i → i < V.length → rd_T26 V i = rd_T26 V' i) : V = V' := by
  refine List.ext_getElem hl fun i h1 h2 => ?_
  rw [← rd_get V i h1, ← rd_get V' i h2]
  exact h i (by omega) (by omega)
theorem fill_pick {W H : Nat} {l : List S26} (hl : (l.length : Int) = W * H) (g : Int → Int → S26) (hg : ∀ x y, Ins W H x y → g x y = pick W H l x y) : fillL W (H * W) g = l := by
  have hn : l.length = H * W := by
    have : ((l.length : Nat) : Int) = ((H * W : Nat) : Int) := by rw [hl, Int.natCast_mul, Int.mul_comm]
    omega
  refine ext_rdS (by rw [fillL_length, hn]) fun i hi hi' => ?_
  rw [fillL_length] at hi'
  have hW : 0 < W := by
    rcases Nat.eq_zero_or_pos W with h | h
    · rw [h, Nat.mul_zero] at hi'; omega
    · exact h
  have hc : (W : Int) * (H : Int) = ((H * W : Nat) : Int) := by rw [Int.natCast_mul, Int.mul_comm]
  obtain ⟨hp, he⟩ := place_of (W := W) (H := H) (by omega) hi (by omega)
  rw [fillL_get g hi hi', hg _ _ hp, pick_in hp, he]
theorem pick_ok {W H : Int} {l : List S26} (hc : chk W H l = 0) (x y : Int) : pxOkS (pick W H l x y) = true := by
  obtain ⟨hs, hl, hv⟩ := chk_ok hc
  by_cases h : Ins W H x y
  · rw [pick_in h]
    have hp := place_in h
    obtain ⟨a, ha⟩ := Int.eq_ofNat_of_zero_le hp.1
    rw [ha, rd_get l a (by omega)]
    exact List.all_eq_true.1 hv _ (List.getElem_mem _)
  · rw [pick_out h]
    decide
theorem fill_ok {w n : Nat} {g : Int → Int → S26} (hg : ∀ x y, pxOkS (g x y) = true) : (fillL w n g).all pxOkS = true := by
  refine List.all_eq_true.2 fun p hp => ?_
  obtain ⟨i, hi, rfl⟩ := List.mem_map.1 hp
  exact hg _ _
theorem rows_sq {R S : Type} (w h : Nat) (s : Nat → S) (F0 : Nat → Int → S → Option R) (F1 : Nat → Int → Int → S → Option R) (r : R)
    (h0 : ∀ y : Nat, y < h → Ev (fun k => F1 k (y : Int) 0 (s (y * w))) r → Ev (fun k => F0 k (y : Int) (s (y * w))) r)
    (h1 : ∀ y x : Nat, y < h → x < w → Ev (fun k => F1 k (y : Int) ((x : Int) + 1) (s (y * w + x + 1))) r → Ev (fun k => F1 k (y : Int) (x : Int) (s (y * w + x))) r)
    (h2 : ∀ y : Nat, y < h → Ev (fun k => F0 k ((y : Int) + 1) (s ((y + 1) * w))) r → Ev (fun k => F1 k (y : Int) (w : Int) (s ((y + 1) * w))) r)
    (h3 : Ev (fun k => F0 k (h : Int) (s (h * w))) r) : Ev (fun k => F0 k 0 (s 0)) r := by
  have inner : ∀ (y : Nat), y < h → Ev (fun k => F0 k ((y : Int) + 1) (s ((y + 1) * w))) r → ∀ (m x : Nat), x + m = w → Ev (fun k => F1 k (y : Int) (x : Int) (s (y * w + x))) r := by
    intro y hy hn m
    induction m with
    | zero =>
      intro x hx
      obtain rfl : x = w := by omega
      rw [show y * x + x = (y + 1) * x by rw [Nat.succ_mul]]
      exact h2 y hy hn
    | succ m ih =>
      intro x hx
      exact h1 y x hy (by omega) (ih (x + 1) (by omega))
  have outer : ∀ (m y : Nat), y + m = h → Ev (fun k => F0 k (y : Int) (s (y * w))) r := by
    intro m
    induction m with
    | zero =>
      intro y hy
      obtain rfl : y = h := by omega
      exact h3
    | succ m ih =>
      intro y hy
      refine h0 y (by omega) ?_
      exact inner y (by omega) (ih (y + 1) (by omega)) w 0 (by omega)
  have := outer h 0 (by omega)
  simpa using this

theorem full_of {W H : Nat} (hW : W ≤ 256) (hH : H ≤ 256) {l : List S26} (hl : l.length = W * H) : imageeditorlaw11_full.f (W : Int) (H : Int) l = some true := by
  have ha := Nat.mul_le_mul hW hH
  unfold imageeditorlaw11_full.f
  rw [if_pos (by omega), if_pos (by omega), if_pos (by omega), if_pos (by omega), ← Int.natCast_mul, w64 (by omega) (by omega), hl]
  simp
end Go.Proofs.Ytjepbimgddgijaa.Pure
