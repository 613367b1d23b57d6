/- RasterBack in plain words: a part that is put back where it was cropped restores the image. For every image and rectangle. -/
import Derived.Test.YtjepbimgddgijaaPCrop
import Derived.Test.YtjepbimgddgijaaPPut
import Derived.Test.YtjepbimgddgijaaG1
import Derived.Test.YtjepbimgddgijaaG6
import Derived.Test.YtjepbimgddgijaaG20
namespace Go.Proofs.Ytjepbimgddgijaa.Pure
open Go.RowKit Go.Proofs.YtjepbimgddgijaaW.PrintWords Go.Proofs.YtjepbimgddgijaaW.PrintLast Go.Proofs.YtjepbimgddgijaaW.PrintMore Go.Proofs.Ytjepbimgddgijaa.G
set_option linter.unusedVariables false
set_option linter.unusedSimpArgs false

theorem ext_rdS {V V' : List S26} (hl : V.length = V'.length) (h : ∀ i : Int, 0 ≤ i → i < V.length → rd_T26 V i = rd_T26 V' i) : V = V' := by
  refine List.ext_getElem hl fun i h1 h2 => ?_
  rw [← rd_get V i h1, ← rd_get V' i h2]
  exact h i (by omega) (by omega)
theorem fill_pick {W H : Nat} {l : List S26} (hl : (l.length : Int) = W * H) (g : Int → Int → S26) (hg : ∀ x y, Ins W H x y → g x y = pick W H l x y) : fillL W (H * W) g = l := by
  have hn : l.length = H * W := by
    have : ((l.length : Nat) : Int) = ((H * W : Nat) : Int) := by rw [hl, Int.natCast_mul, Int.mul_comm]
    omega
  refine ext_rdS (by rw [fillL_length, hn]) fun i hi hi' => ?_
  rw [fillL_length] at hi'
  have hW : 0 < W := by
    rcases Nat.eq_zero_or_pos W with h | h
    · rw [h, Nat.mul_zero] at hi'; omega
    · exact h
  have hc : (W : Int) * (H : Int) = ((H * W : Nat) : Int) := by rw [Int.natCast_mul, Int.mul_comm]
  obtain ⟨hp, he⟩ := place_of (W := W) (H := H) (by omega) hi (by omega)
  rw [fillL_get g hi hi', hg _ _ hp, pick_in hp, he]
theorem pick_ok {W H : Int} {l : List S26} (hc : chk W H l = 0) (x y : Int) : pxOkS (pick W H l x y) = true := by
  obtain ⟨hs, hl, hv⟩ := chk_ok hc
  by_cases h : Ins W H x y
  · rw [pick_in h]
    have hp := place_in h
    obtain ⟨a, ha⟩ := Int.eq_ofNat_of_zero_le hp.1
    rw [ha, rd_get l a (by omega)]
    exact List.all_eq_true.1 hv _ (List.getElem_mem _)
  · rw [pick_out h]
    decide
theorem fill_ok {w n : Nat} {g : Int → Int → S26} (hg : ∀ x y, pxOkS (g x y) = true) : (fillL w n g).all pxOkS = true := by
  refine List.all_eq_true.2 fun p hp => ?_
  obtain ⟨i, hi, rfl⟩ := List.mem_map.1 hp
  exact hg _ _
theorem RasterBack : ∀ (a0_0 : Int) (a0_1 : Int) (a0_2 : List S26) (a1_0 : Int) (a1_1 : Int) (a1_2 : Int) (a1_3 : Int), ((Lit.int .i64 a0_0).wf = true ∧ (Lit.int .i64 a0_1).wf = true ∧ (a0_2.length ≤ maxLen ∧ ∀ x ∈ a0_2, (Lit.int .i64 x.f0).wf = true ∧ (Lit.int .i64 x.f1).wf = true ∧ (Lit.int .i64 x.f2).wf = true ∧ (Lit.int .i64 x.f3).wf = true)) → ((Lit.int .i64 a1_0).wf = true ∧ (Lit.int .i64 a1_1).wf = true ∧ (Lit.int .i64 a1_2).wf = true ∧ (Lit.int .i64 a1_3).wf = true) → ∃ k, imageeditorlaw11_RasterBack.f k a0_0 a0_1 a0_2 a1_0 a1_1 a1_2 a1_3 = some true := by
  intro W H l x y w h _ _
  refine Ev.rounds (awake_eq.bind ?_)
  simp only [if_true]
  refine (crop_eq W H l x y w h).bind ?_
  have none_ : ∀ e : Int, e ≠ 0 → cropR W H l x y w h = (0, 0, [], e) → Ev (fun k => if (cropR W H l x y w h).2.2.2 = 0 then ((raster_Put.f k W H l (cropR W H l x y w h).1 (cropR W H l x y w h).2.1 (cropR W H l x y w h).2.2.1 x y).bind fun bt799 => (if bt799.2.2.2 = 0 then ((imageeditorlaw11_same.f k bt799.1 bt799.2.1 bt799.2.2.1 W H l).bind fun t806 => (some t806)) else (some false))) else ((imageeditorlaw11_same.f k (cropR W H l x y w h).1 (cropR W H l x y w h).2.1 (cropR W H l x y w h).2.2.1 0 0 ([] : List (S26))).bind fun t807 => (some t807))) true := by
    intro e he hr
    rw [hr]
    simp only [if_neg he]
    exact (same_eq [] (by simp) 0 0).bind (.now _)
  by_cases hc : chk W H l = 0
  case neg => exact none_ _ hc (by rw [cropR, if_neg hc])
  by_cases hv : validR x y w h = true
  case neg => exact none_ 2 (by omega) (by rw [cropR, if_pos hc, if_neg hv])
  by_cases hb : w > 256 ∨ h > 256
  · exact none_ 15 (by omega) (by rw [cropR, if_pos hc, if_pos hv, if_pos hb])
  obtain ⟨hs, hl, hall⟩ := chk_ok hc
  obtain ⟨W', H', rfl, rfl, hW, hH, _⟩ := nats hs
  have done : ∀ (r : Res), cropR W' H' l x y w h = r → r.2.2.2 = 0 → chk r.1 r.2.1 r.2.2.1 = 0 → (∀ u v, Ins W' H' u v → over W' H' l r.1 r.2.1 r.2.2.1 (co x) (co y) u v = pick W' H' l u v) → Ev (fun k => if (cropR W' H' l x y w h).2.2.2 = 0 then ((raster_Put.f k W' H' l (cropR W' H' l x y w h).1 (cropR W' H' l x y w h).2.1 (cropR W' H' l x y w h).2.2.1 x y).bind fun bt799 => (if bt799.2.2.2 = 0 then ((imageeditorlaw11_same.f k bt799.1 bt799.2.1 bt799.2.2.1 W' H' l).bind fun t806 => (some t806)) else (some false))) else ((imageeditorlaw11_same.f k (cropR W' H' l x y w h).1 (cropR W' H' l x y w h).2.1 (cropR W' H' l x y w h).2.2.1 0 0 ([] : List (S26))).bind fun t807 => (some t807))) true := by
    intro r hr h0 hk hg
    rw [hr]
    simp only [if_pos h0]
    refine (put_eq W' H' l r.1 r.2.1 r.2.2.1 x y).bind ?_
    have e : putR W' H' l r.1 r.2.1 r.2.2.1 x y = ((W' : Int), (H' : Int), l, 0) := by
      rw [putR, if_pos hc, if_pos hk]
      simp only [Int.toNat_natCast]
      rw [fill_pick hl _ hg]
    rw [e]
    simp only [if_true]
    exact (same_eq l (chk_small hc) _ _).bind (.now _)
  by_cases hz : w = 0 ∨ h = 0
  · refine done (0, 0, [], 0) (by rw [cropR, if_pos hc, if_pos hv, if_neg hb, if_pos hz]) rfl (by decide) fun u v hi => ?_
    rw [over, if_neg (fun h => by have := h.1; have := h.2.1; omega)]
  have hv' := hv
  simp only [validR, decide_eq_true_eq] at hv'
  obtain ⟨w', rfl⟩ := Int.eq_ofNat_of_zero_le hv'.2.2.1
  obtain ⟨h', rfl⟩ := Int.eq_ofNat_of_zero_le hv'.2.2.2.2.2.2.1
  have hcx : co x = x := by unfold co mn mx; split <;> split <;> omega
  have hcy : co y = y := by unfold co mn mx; split <;> split <;> omega
  refine done ((w' : Int), (h' : Int), fillL w' (h' * w') (fun u v => pick W' H' l (x + u) (y + v)), 0) (by rw [cropR, if_pos hc, if_pos hv, if_neg hb, if_neg hz]; rfl) rfl ?_ fun u v hi => ?_
  · show chk (w' : Int) (h' : Int) (fillL w' (h' * w') (fun u v => pick W' H' l (x + u) (y + v))) = 0
    rw [chk, if_pos ⟨(sidesOk_iff _ _).2 ⟨by omega, by omega, by omega, by omega, by omega⟩, by rw [fillL_length, Int.natCast_mul, Int.mul_comm]⟩, if_pos (fill_ok fun a b => pick_ok hc _ _)]
  · show over W' H' l (w' : Int) (h' : Int) (fillL w' (h' * w') (fun u v => pick W' H' l (x + u) (y + v))) (co x) (co y) u v = pick W' H' l u v
    rw [hcx, hcy, over]
    by_cases hin : Ins (w' : Int) (h' : Int) (u - x) (v - y)
    · have hp := place_in hin
      have hcm : (w' : Int) * (h' : Int) = ((h' * w' : Nat) : Int) := by rw [Int.natCast_mul, Int.mul_comm]
      rw [if_pos hin, fillL_get _ hp.1 (by omega), place_mod hin.1 hin.2.1, place_div hin.1 hin.2.1]
      congr 1 <;> omega
    · rw [if_neg hin]
end Go.Proofs.Ytjepbimgddgijaa.Pure
