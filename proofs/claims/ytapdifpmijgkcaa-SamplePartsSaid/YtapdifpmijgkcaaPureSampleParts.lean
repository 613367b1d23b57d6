/- SampleParts in plain words: a part of Draw is Draw of the part. For every image, transform, kernel and rectangles. -/
import Derived.Test.YtapdifpmijgkcaaPDrw
import Derived.Test.YtapdifpmijgkcaaPCut
import Derived.Test.YtapdifpmijgkcaaG1
import Derived.Test.YtapdifpmijgkcaaG8
import Derived.Test.YtapdifpmijgkcaaG9
import Derived.Test.YtapdifpmijgkcaaG11
import Derived.Test.YtapdifpmijgkcaaG12
import Derived.Test.YtapdifpmijgkcaaG16
import Derived.Test.YtapdifpmijgkcaaG17
namespace Go.Proofs.Ytapdifpmijgkcaa.Pure
open Go.RowKit Go.Proofs.YtapdifpmijgkcaaW.PrintWords Go.Proofs.YtapdifpmijgkcaaW.PrintLast Go.Proofs.YtapdifpmijgkcaaW.PrintMore Go.Proofs.Ytapdifpmijgkcaa.G
set_option linter.unusedVariables false
set_option linter.unusedSimpArgs false
set_option linter.unusedSectionVars false

theorem awake_eq : Ev (fun k => imageeditorlaw14_awake.f k) true := .of imageeditorlaw14_awake.mono imageeditorlaw14_awake.known
theorem chk_fill {w h : Nat} {g : Int → Int → S37} (hs : sidesOk (w : Int) (h : Int) = true) (hg : ∀ x y, pxOkS (g x y) = true) : chk (w : Int) (h : Int) (fillL w (h * w) g) = 0 := by
  have hl : ((fillL w (h * w) g).length : Int) = (w : Int) * (h : Int) := by rw [fillL_length, Int.natCast_mul, Int.mul_comm]
  have ha : (fillL w (h * w) g).all pxOkS = true := by
    rw [List.all_eq_true]
    intro p hp
    simp only [fillL, List.mem_map] at hp
    obtain ⟨i, _, rfl⟩ := hp
    exact hg _ _
  unfold chk
  rw [if_pos ⟨hs, hl⟩, if_pos ha]
theorem pick_fill {W H : Nat} {g : Int → Int → S37} {x y : Int} (h : Ins (W : Int) (H : Int) x y) : pick (W : Int) (H : Int) (fillL W (H * W) g) x y = g x y := by
  have pl := place_in h
  rw [pick_in h, fillL_get g pl.1 (by rw [Int.natCast_mul, Int.mul_comm (H : Int)]; exact pl.2), place_mod h.1 h.2.1, place_div h.1 h.2.1]
theorem known_tot (X Y U V : Int) : ∃ X' Y' U' V', rect_known.f X Y U V = some (X', Y', U', V') ∧ validR X' Y' U' V' = true := by
  by_cases hV : validR X Y U V = true
  · exact ⟨X, Y, U, V, known_eq hV, hV⟩
  · refine ⟨0, 0, 0, 0, ?_, by decide⟩
    unfold rect_known.f
    rw [rvalid_eq, Option.bind_some, if_neg hV]
theorem meet_tot {x y w h : Int} (hv : validR x y w h = true) (X Y U V : Int) : ∃ r1 r2 r3 r4, rect_Meet.f x y w h X Y U V = some (r1, r2, r3, r4) ∧ validR r1 r2 r3 r4 = true ∧ ((r3 = 0 ∧ r4 = 0) ∨ (0 < r3 ∧ 0 < r4 ∧ x ≤ r1 ∧ y ≤ r2 ∧ r1 + r3 ≤ x + w ∧ r2 + r4 ≤ y + h)) := by
  obtain ⟨X, Y, U, V, hk, hV⟩ := known_tot X Y U V
  have f := valid_f hv
  have F := valid_f hV
  have b : ∀ p q r s : Int, -1048576 ≤ p → p ≤ 1048576 → -1048576 ≤ q → q ≤ 1048576 → -1048576 ≤ r → r ≤ 1048576 → -1048576 ≤ s → s ≤ 1048576 → wrap64 (mn r s - mx p q) = mn r s - mx p q := by
    intro p q r s _ _ _ _ _ _ _ _
    refine w64 ?_ ?_ <;> unfold mn mx <;> split <;> split <;> omega
  unfold rect_Meet.f
  rw [known_eq hv, Option.bind_some, hk, Option.bind_some]
  simp only [rect_meet.f, rect_between.f, w64 (show -9223372036854775808 ≤ x + w by omega) (by omega), w64 (show -9223372036854775808 ≤ X + U by omega) (by omega), w64 (show -9223372036854775808 ≤ y + h by omega) (by omega), w64 (show -9223372036854775808 ≤ Y + V by omega) (by omega)]
  by_cases c1 : mx x X ≥ mn (x + w) (X + U)
  · rw [if_pos c1]
    exact ⟨0, 0, 0, 0, rfl, by decide, .inl ⟨rfl, rfl⟩⟩
  by_cases c2 : mx y Y ≥ mn (y + h) (Y + V)
  · rw [if_neg c1, if_pos c2]
    exact ⟨0, 0, 0, 0, rfl, by decide, .inl ⟨rfl, rfl⟩⟩
  rw [if_neg c1, if_neg c2]
  refine ⟨_, _, _, _, rfl, ?_, ?_⟩
  all_goals
    simp only []
    rw [b x X (x + w) (X + U) (by omega) (by omega) (by omega) (by omega) (by omega) (by omega) (by omega) (by omega), b y Y (y + h) (Y + V) (by omega) (by omega) (by omega) (by omega) (by omega) (by omega) (by omega) (by omega)]
  · refine valid_m ?_
    unfold mn mx at *
    split at c1 <;> split at c1 <;> split at c2 <;> split at c2 <;> omega
  · refine .inr ?_
    unfold mn mx at *
    split at c1 <;> split at c1 <;> split at c2 <;> split at c2 <;> omega
theorem SampleParts : ∀ (a0_0 : Int) (a0_1 : Int) (a0_2 : List S37) (a1_0 : Int) (a1_1 : Int) (a1_2 : Int) (a1_3 : Int) (a1_4 : Int) (a1_5 : Int) (a2 : Int) (a3_0 : Int) (a3_1 : Int) (a3_2 : Int) (a3_3 : Int) (a4_0 : Int) (a4_1 : Int) (a4_2 : Int) (a4_3 : Int), ((Lit.int .i64 a0_0).wf = true ∧ (Lit.int .i64 a0_1).wf = true ∧ (a0_2.length ≤ maxLen ∧ ∀ x ∈ a0_2, (Lit.int .i64 x.f0).wf = true ∧ (Lit.int .i64 x.f1).wf = true ∧ (Lit.int .i64 x.f2).wf = true ∧ (Lit.int .i64 x.f3).wf = true)) → ((Lit.int .i64 a1_0).wf = true ∧ (Lit.int .i64 a1_1).wf = true ∧ (Lit.int .i64 a1_2).wf = true ∧ (Lit.int .i64 a1_3).wf = true ∧ (Lit.int .i64 a1_4).wf = true ∧ (Lit.int .i64 a1_5).wf = true) → (Lit.int .i64 a2).wf = true → ((Lit.int .i64 a3_0).wf = true ∧ (Lit.int .i64 a3_1).wf = true ∧ (Lit.int .i64 a3_2).wf = true ∧ (Lit.int .i64 a3_3).wf = true) → ((Lit.int .i64 a4_0).wf = true ∧ (Lit.int .i64 a4_1).wf = true ∧ (Lit.int .i64 a4_2).wf = true ∧ (Lit.int .i64 a4_3).wf = true) → ∃ k, imageeditorlaw14_SampleParts.f k a0_0 a0_1 a0_2 a1_0 a1_1 a1_2 a1_3 a1_4 a1_5 a2 a3_0 a3_1 a3_2 a3_3 a4_0 a4_1 a4_2 a4_3 = some true := by
  intro W H l a b c d e f kd x y w h X Y U V _ _ _ _ _
  obtain ⟨R, hR⟩ := inverse_tot a b c d e f
  have same0 : Ev (fun k => imageeditorlaw14_same.f k 0 0 ([] : List S37) 0 0 ([] : List S37)) true := same_eq [] (by simp) 0 0
  unfold imageeditorlaw14_SampleParts.f
  refine Ev.rounds ?_
  by_cases hO : drawOk W H l R kd x y w h
  case neg =>
    obtain ⟨e', he, dE⟩ := draw_bad hR hO
    refine dE.bind (awake_eq.bind ?_)
    simp only [if_true]
    refine .step (fun k => by rw [imageeditorlaw14_SampleParts.j0, if_pos (bne_iff_ne.2 he)]) (awake_eq.bind ?_)
    simp only [if_true]
    exact same0.bind (.now _)
  obtain ⟨hc, hv, hw, hh, hk, h0⟩ := hO
  have hO : drawOk W H l R kd x y w h := ⟨hc, hv, hw, hh, hk, h0⟩
  have vf := valid_f hv
  obtain ⟨r1, r2, r3, r4, hm, hvr, hr⟩ := meet_tot hv X Y U V
  have rf := valid_f hvr
  have hOr : drawOk W H l R kd r1 r2 r3 r4 := ⟨hc, hvr, by omega, by omega, hk, h0⟩
  -- what stands behind the first Draw
  have go : ∀ (tw th : Int) (tl : List S37) (u v : Int × Int × List S37 × Int), Ev (fun k => sample_Draw.f k W H l a b c d e f kd x y w h) (tw, th, tl, 0) → Ev (fun k => sample_Draw.f k W H l a b c d e f kd r1 r2 r3 r4) u → Ev (fun k => raster_Crop.f k tw th tl (wrap64 (r1 - x)) (wrap64 (r2 - y)) r3 r4) v → u.2.2.2 = 0 → ((r3 = 0 ∨ r4 = 0) → u = (0, 0, [], 0)) → (¬ (r3 = 0 ∨ r4 = 0) → v = u ∧ (u.2.2.1.length : Int) ≤ 65536) → Ev (fun k => (sample_Draw.f k W H l a b c d e f kd x y w h).bind fun bt512 => ((imageeditorlaw14_awake.f k).bind fun t519 => (if t519 = true then (imageeditorlaw14_SampleParts.j0 k kd (bt512.2.2.2 != 0) W H l a b c d e f x y w h X Y U V bt512.1 bt512.2.1 bt512.2.2.1) else (imageeditorlaw14_SampleParts.j0 k kd true W H l a b c d e f x y w h X Y U V bt512.1 bt512.2.1 bt512.2.2.1)))) true := by
    intro tw th tl u v h1 h2 h3 hu he hne
    refine h1.bind (awake_eq.bind ?_)
    simp only [if_true, bne_self_eq_false]
    refine .step (fun k => by rw [imageeditorlaw14_SampleParts.j0, if_neg (by simp), hm, Option.bind_some]) ?_
    refine h2.bind (h3.bind ?_)
    simp only [rempty_eq r1 r2 r3 r4 hvr, Option.bind_some, hu, if_true]
    by_cases c : r3 = 0 ∨ r4 = 0
    · rw [he c]
      simp only [decide_eq_true c, if_true]
      exact same0.bind (.now _)
    · obtain ⟨rfl, hl⟩ := hne c
      simp only [decide_eq_false c, Bool.false_eq_true, if_false, hu, if_true]
      exact (same_eq v.2.2.1 hl v.1 v.2.1).bind (.now _)
  by_cases he : w = 0 ∨ h = 0
  · have c : r3 = 0 ∨ r4 = 0 := by omega
    exact go 0 0 [] _ _ (draw_none hR hO he) (draw_none hR hOr c) (crop_eq _ _ _ _ _ _ _) rfl (fun _ => rfl) (fun q => absurd c q)
  obtain ⟨S, hS, hSo⟩ := at_fn hc hk
  obtain ⟨ap, hap⟩ := ap_fn R.1 R.2.1 R.2.2.1 R.2.2.2.1 R.2.2.2.2.1 R.2.2.2.2.2.1
  obtain ⟨w, rfl⟩ := Int.eq_ofNat_of_zero_le (show 0 ≤ w by omega)
  obtain ⟨h, rfl⟩ := Int.eq_ofNat_of_zero_le (show 0 ≤ h by omega)
  have d1 := draw_some hR hO he hS hap
  by_cases c : r3 = 0 ∨ r4 = 0
  · exact go _ _ _ _ _ d1 (draw_none hR hOr c) (crop_eq _ _ _ _ _ _ _) rfl (fun _ => rfl) (fun q => absurd c q)
  obtain ⟨w', rfl⟩ := Int.eq_ofNat_of_zero_le (show 0 ≤ r3 by omega)
  obtain ⟨h', rfl⟩ := Int.eq_ofNat_of_zero_le (show 0 ≤ r4 by omega)
  have d2 := draw_some hR hOr c hS hap
  have cr := crop_eq (w : Int) (h : Int) (fillL w (h * w) (fun u v => pxA S ap (x + u) (y + v))) (wrap64 (r1 - x)) (wrap64 (r2 - y)) (w' : Int) (h' : Int)
  have ew : wrap64 (r1 - x) = r1 - x := w64 (by omega) (by omega)
  have eh : wrap64 (r2 - y) = r2 - y := w64 (by omega) (by omega)
  have hf : chk (w : Int) (h : Int) (fillL w (h * w) (fun u v => pxA S ap (x + u) (y + v))) = 0 := chk_fill ((sidesOk_iff _ _).2 (by omega)) (fun _ _ => hSo _ _)
  have ce : cropR (w : Int) (h : Int) (fillL w (h * w) (fun u v => pxA S ap (x + u) (y + v))) (wrap64 (r1 - x)) (wrap64 (r2 - y)) (w' : Int) (h' : Int) = ((w' : Int), (h' : Int), fillL w' (h' * w') (fun u v => pxA S ap (r1 + u) (r2 + v)), 0) := by
    unfold cropR
    rw [if_pos hf, ew, eh, if_pos (valid_m (by omega)), if_neg (by omega), if_neg (by omega), Int.toNat_natCast, Int.toNat_natCast]
    congr 3
    refine fillL_congr (fun u v hu hi => ?_) (.inl (by omega))
    have hv' : v < h' := by
      rcases Nat.lt_or_ge v h' with q | q
      · exact q
      · have := Nat.mul_le_mul_right w' q
        omega
    rw [pick_fill ⟨by omega, by omega, by omega, by omega⟩]
    congr 1 <;> omega
  rw [ce] at cr
  refine go _ _ _ _ _ d1 d2 cr rfl (fun q => absurd q c) (fun _ => ⟨rfl, ?_⟩)
  show ((fillL w' (h' * w') (fun u v => pxA S ap (r1 + u) (r2 + v))).length : Int) ≤ 65536
  rw [fillL_length]
  exact Int.ofNat_le.2 (Nat.le_trans (Nat.mul_le_mul (show h' ≤ 256 by omega) (show w' ≤ 256 by omega)) (by decide))
end Go.Proofs.Ytapdifpmijgkcaa.Pure
