/- WandTurns in plain words: the mask of a transposed image is the transposed mask. For every image, point and tolerance. -/
import Derived.Test.YtmmncannibnklaaPAll
import Derived.Test.YtmmncannibnklaaG25
namespace Go.Proofs.Ytmmncannibnklaa.Pure
open Go.RowKit Go.Proofs.YtmmncannibnklaaW.PrintWords Go.Proofs.YtmmncannibnklaaW.PrintLast Go.Proofs.YtmmncannibnklaaW.PrintMore Go.Proofs.Ytmmncannibnklaa.G
set_option linter.unusedVariables false
set_option linter.unusedSimpArgs false
/-- The first pixels of an image that is filled row by row. -/
def fillL (w n : Nat) (g : Int → Int → S37) : List S37 := (List.range n).map fun i => g ((i % w : Nat) : Int) ((i / w : Nat) : Int)
theorem fillL_length (w n : Nat) (g : Int → Int → S37) : (fillL w n g).length = n := by simp [fillL]
theorem fillL_step {w x y : Nat} (hx : x < w) (g : Int → Int → S37) : fillL w (y * w + x) g ++ [g (x : Int) (y : Int)] = fillL w (y * w + (x + 1)) g := by
  have e1 : (y * w + x) % w = x := by rw [Nat.add_comm, Nat.add_mul_mod_self_right, Nat.mod_eq_of_lt hx]
  have e2 : (y * w + x) / w = y := by rw [Nat.add_comm, Nat.add_mul_div_right _ _ (by omega), Nat.div_eq_of_lt hx, Nat.zero_add]
  rw [fillL, fillL, show y * w + (x + 1) = (y * w + x) + 1 by omega, List.range_succ, List.map_append, List.map_singleton, e1, e2]
theorem fillL_get {w n : Nat} (g : Int → Int → S37) {i : Int} (hi : 0 ≤ i) (hi' : i < n) : rd_T37 (fillL w n g) i = g (i % (w : Int)) (i / (w : Int)) := by
  obtain ⟨a, rfl⟩ := Int.eq_ofNat_of_zero_le hi
  have ha : a < (fillL w n g).length := by rw [fillL_length]; omega
  rw [rd_get _ a ha]
  simp only [fillL, List.getElem_map, List.getElem_range]
  rfl
theorem chk_pixel_ {W H : Int} {l : List S37} (h : chk W H l = 0) {i : Int} (hi : 0 ≤ i) (hi' : i < l.length) : pxOkS (rd_T37 l i) = true := by
  obtain ⟨a, rfl⟩ := Int.eq_ofNat_of_zero_le hi
  have ha : a < l.length := by omega
  rw [rd_get l a ha]
  exact List.all_eq_true.1 (chk_ok h).2.2 _ (List.getElem_mem ha)
theorem get_in {W H : Int} {l : List S37} (hs : sidesOk W H = true) (hl : (l.length : Int) = W * H) {x y : Int} (hi : Ins W H x y) : raster_get.f W H l x y = some ((rd_T37 l (y * W + x)).f0, (rd_T37 l (y * W + x)).f1, (rd_T37 l (y * W + x)).f2, (rd_T37 l (y * W + x)).f3) := by
  have ha := area hs
  have hp := place_in hi
  obtain ⟨i1, i2, i3, i4⟩ := hi
  have hm := Int.mul_nonneg i3 (show 0 ≤ W by omega)
  have e1 : wrap64 (y * W) = y * W := w64 (by omega) (by omega)
  have e2 : wrap64 (y * W + x) = y * W + x := w64 (by omega) (by omega)
  unfold raster_get.f
  rw [if_neg (by omega), if_neg (by omega), if_neg (by omega), if_neg (by omega), e1, e2, if_pos hp.1, if_pos (by omega)]
section
variable {W H : Int} {l : List S37}
/-- The transposed image's pixels. -/
def turned (W : Int) (l : List S37) (x y : Int) : S37 := rd_T37 l (x * W + y)
theorem flip3_l1 (hs : sidesOk W H = true) (hl : (l.length : Int) = W * H) (w h : Nat) (hw : (w : Int) = H) (hh : (h : Int) = W) (y : Nat) (hy : y < h) {r : Int × Int × List S37}
    (hn : Ev (fun k => raster_fill__raster_Flip_3.l0 k H W ((y : Int) + 1) W H l H W (fillL w ((y + 1) * w) (turned W l))) r) :
    ∀ (m x : Nat), x + m = w → Ev (fun k => raster_fill__raster_Flip_3.l1 k H (y : Int) W (y : Int) H (x : Int) W H l H W (fillL w (y * w + x) (turned W l))) r := by
  have hsd := (sidesOk_iff W H).1 hs
  intro m
  induction m with
  | zero =>
    intro x hx
    refine .step (fun k => by rw [raster_fill__raster_Flip_3.l1, if_neg (by omega), w64 (by omega) (by omega)]) ?_
    rw [show y * w + x = (y + 1) * w by rw [Nat.succ_mul]; omega]
    exact hn
  | succ m ih =>
    intro x hx
    have hi : Ins W H (y : Int) (x : Int) := ⟨by omega, by omega, by omega, by omega⟩
    have hyw : y * w + x ≤ 65536 := by
      have := Nat.mul_le_mul (show y ≤ 255 by omega) (show w ≤ 256 by omega)
      omega
    have e : raster_Flip_3.f (x : Int) (y : Int) W H l = some ((turned W l (x : Int) (y : Int)).f0, (turned W l (x : Int) (y : Int)).f1, (turned W l (x : Int) (y : Int)).f2, (turned W l (x : Int) (y : Int)).f3) := by
      unfold raster_Flip_3.f
      rw [get_in hs hl hi]
      rfl
    refine .step (fun k => by rw [raster_fill__raster_Flip_3.l1, if_pos (by omega), e, Option.bind_some, if_pos (by rw [fillL_length]; omega), w64 (by omega) (by omega)]) ?_
    have := ih (x + 1) (by omega)
    rw [← fillL_step (show x < w by omega)] at this
    exact this
theorem flip3_l0 (hs : sidesOk W H = true) (hl : (l.length : Int) = W * H) (w h : Nat) (hw : (w : Int) = H) (hh : (h : Int) = W) :
    ∀ (m y : Nat), y + m = h → Ev (fun k => raster_fill__raster_Flip_3.l0 k H W (y : Int) W H l H W (fillL w (y * w) (turned W l))) (H, W, fillL w (h * w) (turned W l)) := by
  have hsd := (sidesOk_iff W H).1 hs
  intro m
  induction m with
  | zero =>
    intro y hy
    obtain rfl : y = h := by omega
    refine .step (fun k => by rw [raster_fill__raster_Flip_3.l0, if_neg (by omega)]) (.now _)
  | succ m ih =>
    intro y hy
    refine .step (fun k => by rw [raster_fill__raster_Flip_3.l0, if_pos (by omega)]) ?_
    have := flip3_l1 hs hl w h hw hh y (by omega) (ih (y + 1) (by omega)) w 0 (by omega)
    simpa using this
theorem flip3 (hs : sidesOk W H = true) (hl : (l.length : Int) = W * H) (hv : l.all pxOkS = true) : ∃ tr : List S37, Ev (fun k => raster_Flip.f k W H l 3) (H, W, tr, 0) ∧ (tr.length : Int) = H * W ∧ ∀ x y, Ins W H x y → rd_T37 tr (x * H + y) = rd_T37 l (y * W + x) := by
  have hsd := (sidesOk_iff W H).1 hs
  have ha := area hs
  obtain ⟨w, rfl⟩ := Int.eq_ofNat_of_zero_le hsd.1
  obtain ⟨h, rfl⟩ := Int.eq_ofNat_of_zero_le hsd.2.2.1
  refine ⟨fillL h (w * h) (turned w l), ?_, by rw [fillL_length, Int.mul_comm]; simp, fun x y hi => ?_⟩
  · unfold raster_Flip.f
    refine (check_eq _ _ l).bind ?_
    have h0 : chk (w : Int) (h : Int) l = 0 := by rw [chk, if_pos ⟨hs, hl⟩, if_pos hv]
    simp only [h0, if_true, if_neg (show ¬ (3 : Int) = 1 by omega), if_neg (show ¬ (3 : Int) = 2 by omega)]
    refine Ev.bind (a := ((h : Int), (w : Int), fillL h (w * h) (turned w l))) ?_ (.now _)
    unfold raster_fill__raster_Flip_3.f
    have e : wrap64 ((h : Int) * (w : Int)) = (h : Int) * (w : Int) := by rw [Int.mul_comm]; exact w64 (by omega) (by omega)
    have e' : (h : Int) * (w : Int) = (w : Int) * (h : Int) := Int.mul_comm _ _
    simp only [e, if_pos (show 0 ≤ (h : Int) * (w : Int) by omega), if_pos (show ((h : Int) * (w : Int)).toNat ≤ 8796093022208 by omega)]
    have := flip3_l0 hs hl h w rfl rfl w 0 (by omega)
    simpa [fillL] using this
  · have hi' : Ins h w y x := ⟨hi.2.2.1, hi.2.2.2, hi.1, hi.2.1⟩
    have hp := place_in hi'
    rw [fillL_get (turned w l) hp.1 (by have h1 := hp.2; have h2 := Int.mul_comm (h : Int) (w : Int); rw [Int.natCast_mul]; omega), place_mod hi'.1 hi'.2.1, place_div hi'.1 hi'.2.1]
    rfl
theorem turnLoop (hs : sidesOk W H = true) {A B : List Int} (hA : (A.length : Int) ≤ W * H) (hB : A.length = B.length) (h : ∀ x y, Ins W H x y → (y * W + x) < A.length → x * H + y < A.length ∧ rd A (y * W + x) = rd B (x * H + y)) (a b a' b' : Int) :
    ∀ (m j : Nat), j + m = A.length → Ev (fun k => imageeditorlaw24_WandTurns.l0 k (A.length : Int) (j : Int) W H l a b A a' b' B) true := by
  have hsd := (sidesOk_iff W H).1 hs
  have ha := area hs
  intro m
  induction m with
  | zero =>
    intro j hj
    refine .step (fun k => by rw [imageeditorlaw24_WandTurns.l0, if_neg (by omega)]) ?_
    exact awake_eq.bind (.now _)
  | succ m ih =>
    intro j hj
    have hn := ih (j + 1) (by omega)
    have hW : 0 < W := by
      rcases Int.lt_or_eq_of_le hsd.1 with h | h
      · exact h
      · rw [← h] at hA; omega
    have hj' : (j : Int) < W * H := by omega
    obtain ⟨hi, he⟩ := place_of hW (show (0 : Int) ≤ (j : Int) by omega) hj'
    have t1 : Int.tmod (j : Int) W = (j : Int) % W := Int.tmod_eq_emod_of_nonneg (by omega)
    have t2 : Int.tdiv (j : Int) W = (j : Int) / W := Int.tdiv_eq_ediv_of_nonneg (by omega)
    obtain ⟨h1, h2⟩ := h _ _ hi (by rw [he]; omega)
    rw [he] at h2
    have hi' : Ins H W ((j : Int) / W) ((j : Int) % W) := ⟨hi.2.2.1, hi.2.2.2, hi.1, hi.2.1⟩
    have hp := place_in hi'
    have hm := Int.mul_nonneg hi.1 hsd.2.2.1
    have hc : H * W = W * H := Int.mul_comm _ _
    obtain ⟨i1, i2, i3, i4⟩ := hi
    refine .step (fun k => by rw [imageeditorlaw24_WandTurns.l0, if_pos (by omega), if_pos (by omega), if_pos (by omega), if_neg (by omega), t1, t2, w64 (show -9223372036854775808 ≤ (j : Int) / W by omega) (by omega), w64 (show -9223372036854775808 ≤ (j : Int) % W * H by omega) (by omega), w64 (show -9223372036854775808 ≤ (j : Int) % W * H + (j : Int) / W by omega) (by omega), if_pos hp.1, if_pos (by omega), if_pos h2, w64 (by omega) (by omega)]) ?_
    exact hn
end
theorem WandTurns : ∀ (a0_0 : Int) (a0_1 : Int) (a0_2 : List S37) (a1_0 : Int) (a1_1 : Int) (a2 : Int) (a3 : Bool), ((Lit.int .i64 a0_0).wf = true ∧ (Lit.int .i64 a0_1).wf = true ∧ (a0_2.length ≤ maxLen ∧ ∀ x ∈ a0_2, (Lit.int .i64 x.f0).wf = true ∧ (Lit.int .i64 x.f1).wf = true ∧ (Lit.int .i64 x.f2).wf = true ∧ (Lit.int .i64 x.f3).wf = true)) → ((Lit.int .i64 a1_0).wf = true ∧ (Lit.int .i64 a1_1).wf = true) → (Lit.int .i64 a2).wf = true → ∃ k, imageeditorlaw24_WandTurns.f k a0_0 a0_1 a0_2 a1_0 a1_1 a2 a3 = some true := by
  intro W H l ax ay tol diag _ _ _
  refine Ev.rounds ?_
  by_cases h1 : chk W H l = 0
  case neg =>
    have e : Ev (fun k => raster_Flip.f k W H l 3) (0, 0, [], chk W H l) := by
      unfold raster_Flip.f
      refine (check_eq _ _ l).bind ?_
      simp only [if_neg h1]
      exact .now _
    refine e.bind ?_
    simp only [if_neg h1]
    exact awake_eq.bind (.now _)
  obtain ⟨hs, hl, hv⟩ := chk_ok h1
  have ha := area hs
  have hsd := (sidesOk_iff W H).1 hs
  obtain ⟨tr, e, ht, hg⟩ := flip3 hs hl hv
  have hs' : sidesOk H W = true := (sidesOk_iff H W).2 ⟨hsd.2.2.1, hsd.2.2.2.1, hsd.1, hsd.2.1, hsd.2.2.2.2.symm⟩
  have hv' : tr.all pxOkS = true := by
    refine List.all_eq_true.2 fun p hp => ?_
    obtain ⟨i, hi, rfl⟩ := List.getElem_of_mem hp
    have hH : 0 < H := by
      rcases Int.lt_or_eq_of_le hsd.2.2.1 with h | h
      · exact h
      · rw [← h] at ht; omega
    obtain ⟨hq, he⟩ := place_of (H := W) hH (show (0 : Int) ≤ (i : Int) by omega) (by omega)
    have hi' : Ins W H ((i : Int) / H) ((i : Int) % H) := ⟨hq.2.2.1, hq.2.2.2, hq.1, hq.2.1⟩
    have := hg _ _ hi'
    rw [he, rd_get tr i hi] at this
    rw [this]
    have hp' := place_in hi'
    exact chk_pixel_ h1 hp'.1 (by omega)
  have h1' : chk H W tr = 0 := by rw [chk, if_pos ⟨hs', ht⟩, if_pos hv']
  obtain ⟨r, hr, er⟩ := floods W H l ax ay tol diag
  obtain ⟨q, hq, eq⟩ := floods H W tr ay ax tol diag
  refine e.bind ?_
  simp only [if_true]
  refine er.bind (eq.bind ?_)
  by_cases h2 : Ins W H ax ay ∧ 0 ≤ tol ∧ tol ≤ 65535
  case neg =>
    have e1 := hr.out h1 h2
    have e2 := hq.out h1' fun h => h2 ⟨⟨h.1.2.2.1, h.1.2.2.2, h.1.1, h.1.2.1⟩, h.2⟩
    subst e1 e2
    simp only [if_true, if_neg (show ¬ (2 : Int) = 0 by omega)]
    refine .step (fun k => by rw [imageeditorlaw24_WandTurns.j0, if_neg (by simp)]) ?_
    exact turnLoop hs (A := []) (B := []) (by simpa using ha.1) rfl (fun x y hi h => by have := place_in hi; simp at h; omega) _ _ _ _ 0 0 rfl
  have h2' : Ins H W ay ax ∧ 0 ≤ tol ∧ tol ≤ 65535 := ⟨⟨h2.1.2.2.1, h2.1.2.2.2, h2.1.1, h2.1.2.1⟩, h2.2⟩
  obtain ⟨A, rfl, fA⟩ := hr.good h1 h2
  obtain ⟨B, rfl, fB⟩ := hq.good h1' h2'
  have e1 := fA.len
  have e2 := fB.len
  have hc : H * W = W * H := Int.mul_comm _ _
  simp only [if_true, if_pos (show (A.length : Int) = (B.length : Int) by omega), if_pos (show (A.length : Int) = (l.length : Int) by omega)]
  refine .step (fun k => by rw [imageeditorlaw24_WandTurns.j0, if_neg (by simp)]) ?_
  refine turnLoop hs (by omega) (by omega) (fun x y hi h => ?_) _ _ _ _ A.length 0 (by omega)
  have hi' : Ins H W y x := ⟨hi.2.2.1, hi.2.2.2, hi.1, hi.2.1⟩
  have hp' := place_in hi'
  refine ⟨by omega, ?_⟩
  have hfirst : rd_T37 tr (ax * H + ay) = rd_T37 l (ay * W + ax) := hg _ _ h2.1
  have s1 : ∀ u v, Ins W H u v → simS W l (rd_T37 l (ay * W + ax)) tol u v → simS H tr (rd_T37 tr (ax * H + ay)) tol v u := by
    intro u v hi hsim
    unfold simS at hsim ⊢
    rw [hg _ _ hi, hfirst]
    exact hsim
  have s2 : ∀ u v, Ins H W u v → simS H tr (rd_T37 tr (ax * H + ay)) tol u v → simS W l (rd_T37 l (ay * W + ax)) tol v u := by
    intro u v hi hsim
    unfold simS at hsim ⊢
    rw [← hg v u ⟨hi.2.2.1, hi.2.2.2, hi.1, hi.2.1⟩, ← hfirst]
    exact hsim
  by_cases hr' : Reach W H (simS W l (rd_T37 l (ay * W + ax)) tol) diag ax ay x y
  · rw [fA.on _ _ hi hr', fB.on _ _ hi' (hr'.flip s1)]
  · rw [fA.off _ _ hi hr', fB.off _ _ hi' fun h' => hr' (h'.flip s2)]
end Go.Proofs.Ytmmncannibnklaa.Pure
