/- RasterTurns in plain words: each kind of Flip done twice restores a valid image; kind 1 and then kind 2 is kind 4; kind 3 and then kind 1 is kind 2 and then kind 3. For every image. -/
import Derived.Test.YtjepbimgddgijaaQFlip
import Derived.Test.YtjepbimgddgijaaG8
import Derived.Test.YtjepbimgddgijaaG10
import Derived.Test.YtjepbimgddgijaaG25
namespace Go.Proofs.Ytjepbimgddgijaa.Pure
open Go.RowKit Go.Proofs.YtjepbimgddgijaaW.PrintWords Go.Proofs.YtjepbimgddgijaaW.PrintLast Go.Proofs.YtjepbimgddgijaaW.PrintMore Go.Proofs.Ytjepbimgddgijaa.G
set_option linter.unusedVariables false
set_option linter.unusedSimpArgs false
theorem ext_rdS {V V' : List S26} (hl : V.length = V'.length) (h : ∀ i : Int, 0 ≤ i → i < V.length → rd_T26 V i = rd_T26 V' i) : V = V' := by
  refine List.ext_getElem hl fun i h1 h2 => ?_
  rw [← rd_get V i h1, ← rd_get V' i h2]
  exact h i (by omega) (by omega)
theorem fill_pick {W H : Nat} {l : List S26} (hl : (l.length : Int) = W * H) (g : Int → Int → S26) (hg : ∀ x y, Ins W H x y → g x y = pick W H l x y) : fillL W (H * W) g = l := by
  have hn : l.length = H * W := by
    have : ((l.length : Nat) : Int) = ((H * W : Nat) : Int) := by rw [hl, Int.natCast_mul, Int.mul_comm]
    omega
  refine ext_rdS (by rw [fillL_length, hn]) fun i hi hi' => ?_
  rw [fillL_length] at hi'
  have hW : 0 < W := by
    rcases Nat.eq_zero_or_pos W with h | h
    · rw [h, Nat.mul_zero] at hi'; omega
    · exact h
  have hc : (W : Int) * (H : Int) = ((H * W : Nat) : Int) := by rw [Int.natCast_mul, Int.mul_comm]
  obtain ⟨hp, he⟩ := place_of (W := W) (H := H) (by omega) hi (by omega)
  rw [fillL_get g hi hi', hg _ _ hp, pick_in hp, he]
theorem pick_ok {W H : Int} {l : List S26} (hc : chk W H l = 0) (x y : Int) : pxOkS (pick W H l x y) = true := by
  obtain ⟨hs, hl, hv⟩ := chk_ok hc
  by_cases h : Ins W H x y
  · rw [pick_in h]
    have hp := place_in h
    obtain ⟨a, ha⟩ := Int.eq_ofNat_of_zero_le hp.1
    rw [ha, rd_get l a (by omega)]
    exact List.all_eq_true.1 hv _ (List.getElem_mem _)
  · rw [pick_out h]
    decide
theorem fill_ok {w n : Nat} {g : Int → Int → S26} (hg : ∀ x y, pxOkS (g x y) = true) : (fillL w n g).all pxOkS = true := by
  refine List.all_eq_true.2 fun p hp => ?_
  obtain ⟨i, hi, rfl⟩ := List.mem_map.1 hp
  exact hg _ _

theorem fill_chk {w h : Nat} {g : Int → Int → S26} (hs : sidesOk (w : Int) (h : Int) = true) (hg : ∀ x y, pxOkS (g x y) = true) : chk (w : Int) (h : Int) (fillL w (h * w) g) = 0 := by
  rw [chk, if_pos ⟨hs, by rw [fillL_length, Int.natCast_mul, Int.mul_comm]⟩, if_pos (fill_ok hg)]
theorem pick_fill {w h : Nat} {g : Int → Int → S26} {x y : Int} (hI : Ins (w : Int) (h : Int) x y) : pick (w : Int) (h : Int) (fillL w (h * w) g) x y = g x y := by
  have hp := place_in hI
  have hcm : (w : Int) * (h : Int) = ((h * w : Nat) : Int) := by rw [Int.natCast_mul, Int.mul_comm]
  rw [pick_in hI, fillL_get _ hp.1 (by omega), place_mod hI.1 hI.2.1, place_div hI.1 hI.2.1]
theorem fill_same {w h : Nat} {g g' : Int → Int → S26} (hg : ∀ x y, Ins (w : Int) (h : Int) x y → g x y = g' x y) : fillL w (h * w) g = fillL w (h * w) g' := by
  rcases Nat.eq_zero_or_pos w with e | e
  · exact fillL_congr (fun x y hx _ => by omega) (.inr (by rw [e, Nat.mul_zero]))
  · refine fillL_congr (fun x y hx hy => ?_) (.inl e)
    have hyh : y < h := by
      rcases Nat.lt_or_ge y h with a | a
      · exact a
      · have := Nat.mul_le_mul_right w a
        omega
    exact hg _ _ ⟨by omega, by omega, by omega, by omega⟩
theorem flipG_ok {W H : Nat} {l : List S26} (hc : chk (W : Int) (H : Int) l = 0) (κ : Nat) (x y : Int) : pxOkS (flipG κ W H l x y) = true := by
  unfold flipG
  split <;> exact pick_ok hc _ _
section
variable {W H : Nat} {l : List S26} (hc : chk (W : Int) (H : Int) l = 0)
include hc
theorem flip_is1 : flipR (W : Int) (H : Int) l 1 = ((W : Int), (H : Int), fillL W (H * W) (flipG 1 W H l), 0) := by rw [flipR, if_pos hc, if_pos rfl]; rfl
theorem flip_is2 : flipR (W : Int) (H : Int) l 2 = ((W : Int), (H : Int), fillL W (H * W) (flipG 2 W H l), 0) := by rw [flipR, if_pos hc, if_neg (by decide), if_pos rfl]; rfl
theorem flip_is3 : flipR (W : Int) (H : Int) l 3 = ((H : Int), (W : Int), fillL H (W * H) (flipG 3 W H l), 0) := by rw [flipR, if_pos hc, if_neg (by decide), if_neg (by decide), if_pos rfl]; rfl
theorem flip_is4 : flipR (W : Int) (H : Int) l 4 = ((W : Int), (H : Int), fillL W (H * W) (flipG 4 W H l), 0) := by rw [flipR, if_pos hc, if_neg (by decide), if_neg (by decide), if_neg (by decide), if_pos rfl]; rfl
end
theorem RasterTurns : ∀ (a0_0 : Int) (a0_1 : Int) (a0_2 : List S26), ((Lit.int .i64 a0_0).wf = true ∧ (Lit.int .i64 a0_1).wf = true ∧ (a0_2.length ≤ maxLen ∧ ∀ x ∈ a0_2, (Lit.int .i64 x.f0).wf = true ∧ (Lit.int .i64 x.f1).wf = true ∧ (Lit.int .i64 x.f2).wf = true ∧ (Lit.int .i64 x.f3).wf = true)) → ∃ k, imageeditorlaw11_RasterTurns.f k a0_0 a0_1 a0_2 = some true := by
  intro W H l _
  unfold imageeditorlaw11_RasterTurns.f
  refine Ev.rounds (awake_eq.bind ?_)
  simp only [if_true]
  refine (check_eq W H l).bind ?_
  by_cases hc : chk W H l = 0
  case neg =>
    have e : (chk W H l != 0) = true := bne_iff_ne.2 hc
    simp only [e]
    refine .step (fun k => by rw [imageeditorlaw11_RasterTurns.j0, if_pos rfl]) ?_
    exact awake_eq.bind (.now _)
  have e : (chk W H l != 0) = false := bne_eq_false_iff_eq.2 hc
  simp only [e]
  refine .step (fun k => by rw [imageeditorlaw11_RasterTurns.j0, if_neg (by simp)]) ?_
  clear e
  obtain ⟨hs, hl, _⟩ := chk_ok hc
  obtain ⟨W, H, rfl, rfl, hW, hH, hWH⟩ := nats hs
  have hsm := chk_small hc
  have hs' : sidesOk (H : Int) (W : Int) = true := by rw [sidesOk_iff] at hs ⊢; omega
  have ok := fun κ => flipG_ok hc κ
  have c1 : chk (W : Int) (H : Int) (fillL W (H * W) (flipG 1 W H l)) = 0 := fill_chk hs (ok 1)
  have c2 : chk (W : Int) (H : Int) (fillL W (H * W) (flipG 2 W H l)) = 0 := fill_chk hs (ok 2)
  have c3 : chk (H : Int) (W : Int) (fillL H (W * H) (flipG 3 W H l)) = 0 := fill_chk hs' (ok 3)
  have c4 : chk (W : Int) (H : Int) (fillL W (H * W) (flipG 4 W H l)) = 0 := fill_chk hs (ok 4)
  have s4 := chk_small c4
  have f1 := flip_eq (W : Int) (H : Int) l 1
  have f2 := flip_eq (W : Int) (H : Int) l 2
  have f3 := flip_eq (W : Int) (H : Int) l 3
  have f4 := flip_eq (W : Int) (H : Int) l 4
  rw [flip_is1 hc] at f1
  rw [flip_is2 hc] at f2
  rw [flip_is3 hc] at f3
  rw [flip_is4 hc] at f4
  have g1 := flip_eq (W : Int) (H : Int) (fillL W (H * W) (flipG 1 W H l)) 1
  have g2 := flip_eq (W : Int) (H : Int) (fillL W (H * W) (flipG 2 W H l)) 2
  have g3 := flip_eq (H : Int) (W : Int) (fillL H (W * H) (flipG 3 W H l)) 3
  have g4 := flip_eq (W : Int) (H : Int) (fillL W (H * W) (flipG 4 W H l)) 4
  have a := flip_eq (W : Int) (H : Int) (fillL W (H * W) (flipG 1 W H l)) 2
  have b := flip_eq (H : Int) (W : Int) (fillL H (W * H) (flipG 3 W H l)) 1
  have c := flip_eq (W : Int) (H : Int) (fillL W (H * W) (flipG 2 W H l)) 3
  have e1 : fillL W (H * W) (flipG 1 W H (fillL W (H * W) (flipG 1 W H l))) = l := fill_pick hl _ (fun x y hI => by
    obtain ⟨i1, i2, i3, i4⟩ := hI
    show pick (W : Int) (H : Int) (fillL W (H * W) (flipG 1 W H l)) ((W : Int) - 1 - x) y = _
    rw [pick_fill ⟨by omega, by omega, by omega, by omega⟩]
    show pick (W : Int) (H : Int) l ((W : Int) - 1 - ((W : Int) - 1 - x)) y = _
    rw [show (W : Int) - 1 - ((W : Int) - 1 - x) = x by omega])
  have e2 : fillL W (H * W) (flipG 2 W H (fillL W (H * W) (flipG 2 W H l))) = l := fill_pick hl _ (fun x y hI => by
    obtain ⟨i1, i2, i3, i4⟩ := hI
    show pick (W : Int) (H : Int) (fillL W (H * W) (flipG 2 W H l)) x ((H : Int) - 1 - y) = _
    rw [pick_fill ⟨by omega, by omega, by omega, by omega⟩]
    show pick (W : Int) (H : Int) l x ((H : Int) - 1 - ((H : Int) - 1 - y)) = _
    rw [show (H : Int) - 1 - ((H : Int) - 1 - y) = y by omega])
  have e3 : fillL W (H * W) (flipG 3 H W (fillL H (W * H) (flipG 3 W H l))) = l := fill_pick hl _ (fun x y hI => by
    obtain ⟨i1, i2, i3, i4⟩ := hI
    show pick (H : Int) (W : Int) (fillL H (W * H) (flipG 3 W H l)) y x = _
    rw [pick_fill ⟨by omega, by omega, by omega, by omega⟩]
    rfl)
  have e4 : fillL W (H * W) (flipG 4 W H (fillL W (H * W) (flipG 4 W H l))) = l := fill_pick hl _ (fun x y hI => by
    obtain ⟨i1, i2, i3, i4⟩ := hI
    show pick (W : Int) (H : Int) (fillL W (H * W) (flipG 4 W H l)) ((W : Int) - 1 - x) ((H : Int) - 1 - y) = _
    rw [pick_fill ⟨by omega, by omega, by omega, by omega⟩]
    show pick (W : Int) (H : Int) l ((W : Int) - 1 - ((W : Int) - 1 - x)) ((H : Int) - 1 - ((H : Int) - 1 - y)) = _
    rw [show (W : Int) - 1 - ((W : Int) - 1 - x) = x by omega, show (H : Int) - 1 - ((H : Int) - 1 - y) = y by omega])
  have ea : fillL W (H * W) (flipG 2 W H (fillL W (H * W) (flipG 1 W H l))) = fillL W (H * W) (flipG 4 W H l) := fill_same (fun x y hI => by
    obtain ⟨i1, i2, i3, i4⟩ := hI
    show pick (W : Int) (H : Int) (fillL W (H * W) (flipG 1 W H l)) x ((H : Int) - 1 - y) = _
    rw [pick_fill ⟨by omega, by omega, by omega, by omega⟩]
    rfl)
  have ec : fillL H (W * H) (flipG 3 W H (fillL W (H * W) (flipG 2 W H l))) = fillL H (W * H) (flipG 1 H W (fillL H (W * H) (flipG 3 W H l))) := fill_same (fun x y hI => by
    obtain ⟨i1, i2, i3, i4⟩ := hI
    show pick (W : Int) (H : Int) (fillL W (H * W) (flipG 2 W H l)) y x = pick (H : Int) (W : Int) (fillL H (W * H) (flipG 3 W H l)) ((H : Int) - 1 - x) y
    rw [pick_fill ⟨by omega, by omega, by omega, by omega⟩, pick_fill ⟨by omega, by omega, by omega, by omega⟩]
    rfl)
  rw [flip_is1 c1, e1] at g1
  rw [flip_is2 c2, e2] at g2
  rw [flip_is3 c3, e3] at g3
  rw [flip_is4 c4, e4] at g4
  rw [flip_is2 c1, ea] at a
  rw [flip_is1 c3] at b
  rw [flip_is3 c2, ec] at c
  have s5 : ((fillL H (W * H) (flipG 1 H W (fillL H (W * H) (flipG 3 W H l)))).length : Int) ≤ 65536 := chk_small (fill_chk hs' (fun x y => flipG_ok c3 1 x y))
  have same_l := same_eq l hsm (W : Int) (H : Int)
  refine f1.bind ?_
  refine g1.bind ?_
  simp only [if_true]
  refine same_l.bind ?_
  simp only [if_true]
  refine f2.bind ?_
  refine g2.bind ?_
  simp only [if_true]
  refine same_l.bind ?_
  simp only [if_true]
  refine f3.bind ?_
  refine g3.bind ?_
  simp only [if_true]
  refine same_l.bind ?_
  simp only [if_true]
  refine f4.bind ?_
  refine g4.bind ?_
  simp only [if_true]
  refine same_l.bind ?_
  simp only [if_true]
  refine a.bind ?_
  refine b.bind ?_
  refine c.bind ?_
  simp only [if_true]
  refine (same_eq _ s4 _ _).bind ?_
  simp only [if_true]
  exact (same_eq _ s5 _ _).bind (.now _)
end Go.Proofs.Ytjepbimgddgijaa.Pure
