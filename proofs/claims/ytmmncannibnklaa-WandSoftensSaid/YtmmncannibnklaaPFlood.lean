/- wand.Flood: what it computes. Its mask is 65535 where the place can be reached and 0 elsewhere. No conditions. -/
import Derived.Test.YtmmncannibnklaaPReach
import Derived.Test.YtmmncannibnklaaG2
import Derived.Test.YtmmncannibnklaaG3
namespace Go.Proofs.Ytmmncannibnklaa.Pure
open Go.RowKit Go.Proofs.YtmmncannibnklaaW.PrintWords Go.Proofs.YtmmncannibnklaaW.PrintLast Go.Proofs.YtmmncannibnklaaW.PrintMore Go.Proofs.Ytmmncannibnklaa.G
set_option linter.unusedVariables false
set_option linter.unusedSimpArgs false
def distS (p q : S37) : Int := dist p.f0 p.f1 p.f2 p.f3 q.f0 q.f1 q.f2 q.f3
/-- The places that are similar to a pixel. -/
def simS (W : Int) (l : List S37) (f : S37) (tol : Int) (x y : Int) : Prop := distS (rd_T37 l (y * W + x)) f ≤ tol
theorem rd_nat (V : List Int) (i : Nat) (h : i < V.length) : rd V (i : Int) = V[i] := by
  simp [rd, List.getD_eq_getElem?_getD, List.getElem?_eq_getElem h]
theorem rd_set (V : List Int) (i j v : Int) (hi : 0 ≤ i) (hi' : i < V.length) (hj : 0 ≤ j) : rd (V.set i.toNat v) j = if j = i then v else rd V j := by
  obtain ⟨a, rfl⟩ := Int.eq_ofNat_of_zero_le hi
  obtain ⟨b, rfl⟩ := Int.eq_ofNat_of_zero_le hj
  simp only [rd, Int.toNat_natCast, List.getD_eq_getElem?_getD, List.getElem?_set]
  have ha : a < V.length := by omega
  by_cases h : a = b
  · subst h; simp [ha]
  · rw [if_neg h, if_neg (by omega)]
def cnt (V : List Int) : Nat := V.countP (· == 0)
theorem cnt_set (V : List Int) (i : Int) (hi : 0 ≤ i) (hi' : i < V.length) (h : rd V i = 0) : cnt (V.set i.toNat 65535) + 1 = cnt V := by
  obtain ⟨a, rfl⟩ := Int.eq_ofNat_of_zero_le hi
  have ha : a < V.length := by omega
  have hv : V[a] = 0 := by rw [← rd_nat V a ha]; exact h
  have hp : 0 < V.countP (· == 0) := List.countP_pos_iff.2 ⟨V[a], List.getElem_mem ha, by simp [hv]⟩
  simp only [cnt, Int.toNat_natCast]
  rw [List.countP_set ha]
  simp [hv]
  omega
/-- One visit. -/
noncomputable def vis (W H : Int) (l : List S37) (f : S37) (tol u v : Int) (s : List Int × List S26) : List Int × List S26 := by
  classical
  exact if Ins W H u v ∧ rd s.1 (v * W + u) = 0 ∧ simS W l f tol u v then (s.1.set (v * W + u).toNat 65535, s.2 ++ [⟨u, v⟩]) else s
section
variable {W H : Int} {l : List S37} {f : S37} {tol : Int}
theorem visit_eq (hs : sidesOk W H = true) (hl : (l.length : Int) = W * H) (u v : Int) (V : List Int) (st : List S26) (hV : (V.length : Int) = W * H) (hst : st.length ≤ 65536) :
    Ev (fun k => wand_Flood_1.f k u v W H l W H V f.f0 f.f1 f.f2 f.f3 tol st) (vis W H l f tol u v (V, st)) := by
  have ha := area hs
  rw [sidesOk_iff] at hs
  have bad : ¬ Ins W H u v → Ev (fun k => wand_Flood_1.j0 k true W H l W H V f.f0 f.f1 f.f2 f.f3 tol st u v) (vis W H l f tol u v (V, st)) := by
    intro h
    refine .step (f := fun _ => some (V, st)) (fun k => by rw [wand_Flood_1.j0, if_pos rfl]) ?_
    rw [vis, if_neg (fun h' => h h'.1)]
    exact .now _
  unfold wand_Flood_1.f
  by_cases h1 : u < 0
  · simp only [if_pos h1]; exact bad fun h => by have := h.1; omega
  by_cases h2 : u ≥ W
  · simp only [if_neg h1, if_pos h2]; exact bad fun h => by have := h.2.1; omega
  by_cases h3 : v < 0
  · simp only [if_neg h1, if_neg h2, if_pos h3]; exact bad fun h => by have := h.2.2.1; omega
  simp only [if_neg h1, if_neg h2, if_neg h3]
  by_cases h4 : v ≥ H
  · simp only [h4, decide_true]; exact bad fun h => by have := h.2.2.2; omega
  simp only [h4, decide_false]
  have hi : Ins W H u v := ⟨by omega, by omega, by omega, by omega⟩
  have hp := place_in hi
  have hm := Int.mul_nonneg (show 0 ≤ v by omega) (show 0 ≤ W by omega)
  have e1 : wrap64 (v * W) = v * W := w64 (by omega) (by omega)
  have e2 : wrap64 (v * W + u) = v * W + u := w64 (by omega) (by omega)
  refine .step (fun k => by rw [wand_Flood_1.j0, if_neg (by simp), e1, e2, if_pos hp.1, if_pos (by omega), if_pos (show v * W + u < (l.length : Int) by omega), dist_eq, Option.bind_some, if_pos (show st.length < 8796093022208 by omega)]) ?_
  by_cases h5 : rd V (v * W + u) = 0
  · simp only [if_pos h5]
    by_cases h6 : simS W l f tol u v
    · have e : vis W H l f tol u v (V, st) = (V.set (v * W + u).toNat 65535, st ++ [⟨u, v⟩]) := if_pos ⟨hi, h5, h6⟩
      rw [e]
      simp only [if_pos (show dist (rd_T37 l (v * W + u)).f0 (rd_T37 l (v * W + u)).f1 (rd_T37 l (v * W + u)).f2 (rd_T37 l (v * W + u)).f3 f.f0 f.f1 f.f2 f.f3 ≤ tol from h6)]
      exact .now _
    · have e : vis W H l f tol u v (V, st) = (V, st) := if_neg (fun h => h6 h.2.2)
      rw [e]
      simp only [if_neg (show ¬ dist (rd_T37 l (v * W + u)).f0 (rd_T37 l (v * W + u)).f1 (rd_T37 l (v * W + u)).f2 (rd_T37 l (v * W + u)).f3 f.f0 f.f1 f.f2 f.f3 ≤ tol from h6)]
      exact .now _
  · have e : vis W H l f tol u v (V, st) = (V, st) := if_neg (fun h => h5 h.2.1)
    rw [e]
    simp only [if_neg h5]
    exact .now _
def MV (W H : Int) (V : List Int) (x y : Int) : Prop := Ins W H x y ∧ rd V (y * W + x) ≠ 0
def TS (st : List S26) (x y : Int) : Prop := (⟨x, y⟩ : S26) ∈ st
structure Mid (W H : Int) (sim : Int → Int → Prop) (diag : Bool) (px py : Int) (M T : Int → Int → Prop) (K : Nat) (s : List Int × List S26) : Prop where
  e : Ext W H sim diag px py M T (MV W H s.1) (TS s.2)
  len : (s.1.length : Int) = W * H
  vals : ∀ i, 0 ≤ i → rd s.1 i = 0 ∨ rd s.1 i = 65535
  count : cnt s.1 + s.2.length = K
theorem MV_set {V : List Int} {u v : Int} (hV : (V.length : Int) = W * H) (hi : Ins W H u v) (x y : Int) : MV W H (V.set (v * W + u).toNat 65535) x y ↔ MV W H V x y ∨ (x = u ∧ y = v) := by
  have hp := place_in hi
  unfold MV
  constructor
  · rintro ⟨h, hr⟩
    rw [rd_set _ _ _ _ hp.1 (by omega) (place_in h).1] at hr
    by_cases e : y * W + x = v * W + u
    · exact .inr (place_inj h hi e)
    · rw [if_neg e] at hr
      exact .inl ⟨h, hr⟩
  · rintro (⟨h, hr⟩ | ⟨rfl, rfl⟩)
    · refine ⟨h, ?_⟩
      rw [rd_set _ _ _ _ hp.1 (by omega) (place_in h).1]
      split
      · omega
      · exact hr
    · refine ⟨hi, ?_⟩
      rw [rd_set _ _ _ _ hp.1 (by omega) hp.1, if_pos rfl]
      omega
theorem TS_add (st : List S26) (u v x y : Int) : TS (st ++ [⟨u, v⟩]) x y ↔ TS st x y ∨ (x = u ∧ y = v) := by
  simp [TS]
theorem Mid.visit {diag : Bool} {px py : Int} {M T : Int → Int → Prop} {K : Nat} {s : List Int × List S26} (h : Mid W H (simS W l f tol) diag px py M T K s) {u v : Int} (ho : Off diag (u - px) (v - py)) :
    Mid W H (simS W l f tol) diag px py M T K (vis W H l f tol u v s) ∧ (Ins W H u v → simS W l f tol u v → MV W H (vis W H l f tol u v s).1 u v) ∧ (∀ x y, MV W H s.1 x y → MV W H (vis W H l f tol u v s).1 x y) := by
  rw [vis]
  by_cases hc : Ins W H u v ∧ rd s.1 (v * W + u) = 0 ∧ simS W l f tol u v
  · rw [if_pos hc]
    obtain ⟨hi, h0, hsim⟩ := hc
    have hp := place_in hi
    have hlen := h.len
    refine ⟨⟨h.e.trans ⟨fun x y hm => (MV_set h.len hi x y).2 (.inl hm), fun x y ht => (TS_add _ _ _ _ _).2 (.inl ht), fun x y hm => ?_, fun x y ht => ?_⟩, by simpa using h.len, fun i hi' => ?_, ?_⟩, fun _ _ => (MV_set h.len hi u v).2 (.inr ⟨rfl, rfl⟩), fun x y hm => (MV_set h.len hi x y).2 (.inl hm)⟩
    · rcases (MV_set h.len hi x y).1 hm with hm | ⟨rfl, rfl⟩
      · exact .inl hm
      · exact .inr ⟨(TS_add _ _ _ _ _).2 (.inr ⟨rfl, rfl⟩), ho, hi, hsim⟩
    · rcases (TS_add _ _ _ _ _).1 ht with ht | ⟨rfl, rfl⟩
      · exact .inl ht
      · exact .inr ((MV_set h.len hi x y).2 (.inr ⟨rfl, rfl⟩))
    · show rd (s.1.set (v * W + u).toNat 65535) i = 0 ∨ rd (s.1.set (v * W + u).toNat 65535) i = 65535
      rw [rd_set _ _ _ _ hp.1 (by omega) hi']
      split
      · exact .inr rfl
      · exact h.vals i hi'
    · have := cnt_set s.1 (v * W + u) hp.1 (by omega) h0
      have := h.count
      show cnt (s.1.set (v * W + u).toNat 65535) + (s.2 ++ [(⟨u, v⟩ : S26)]).length = K
      rw [List.length_append]
      simp only [List.length_cons, List.length_nil]
      omega
  · rw [if_neg hc]
    refine ⟨h, fun hi hsim => ⟨hi, fun h0 => hc ⟨hi, h0, hsim⟩⟩, fun _ _ hm => hm⟩
/-- A visit of a neighbor, if it is one. -/
noncomputable def visO (W H : Int) (l : List S37) (f : S37) (tol : Int) (diag : Bool) (px py : Int) (s : List Int × List S26) (d : Int × Int) : List Int × List S26 :=
  if diag = true ∨ d.1 = 0 ∨ d.2 = 0 then vis W H l f tol (px + d.1) (py + d.2) s else s
theorem Mid.visits {diag : Bool} {px py : Int} {M T : Int → Int → Prop} {K : Nat} : ∀ (L : List (Int × Int)) (s : List Int × List S26), (∀ d ∈ L, -1 ≤ d.1 ∧ d.1 ≤ 1 ∧ -1 ≤ d.2 ∧ d.2 ≤ 1) → Mid W H (simS W l f tol) diag px py M T K s →
    Mid W H (simS W l f tol) diag px py M T K (L.foldl (visO W H l f tol diag px py) s) ∧ (∀ d ∈ L, (diag = true ∨ d.1 = 0 ∨ d.2 = 0) → Ins W H (px + d.1) (py + d.2) → simS W l f tol (px + d.1) (py + d.2) → MV W H (L.foldl (visO W H l f tol diag px py) s).1 (px + d.1) (py + d.2)) ∧ (∀ x y, MV W H s.1 x y → MV W H (L.foldl (visO W H l f tol diag px py) s).1 x y) := by
  intro L
  induction L with
  | nil => intro s _ h; exact ⟨h, fun d hd => by simp at hd, fun _ _ hm => hm⟩
  | cons d L ih =>
    intro s hL h
    have hd := hL d (by simp)
    rw [List.foldl_cons]
    by_cases ha : diag = true ∨ d.1 = 0 ∨ d.2 = 0
    · have ho : Off diag (px + d.1 - px) (py + d.2 - py) := by
        rw [show px + d.1 - px = d.1 by omega, show py + d.2 - py = d.2 by omega]
        exact ⟨hd.1, hd.2.1, hd.2.2.1, hd.2.2.2, ha⟩
      obtain ⟨h1, h2, h3⟩ := h.visit ho
      have e : visO W H l f tol diag px py s d = vis W H l f tol (px + d.1) (py + d.2) s := by rw [visO, if_pos ha]
      rw [e]
      obtain ⟨k1, k2, k3⟩ := ih (vis W H l f tol (px + d.1) (py + d.2) s) (fun d' hd' => hL d' (by simp [hd'])) h1
      refine ⟨k1, fun d' hd' => ?_, fun x y hm => k3 x y (h3 x y hm)⟩
      rcases List.mem_cons.1 hd' with rfl | hd'
      · exact fun _ hi hs => k3 _ _ (h2 hi hs)
      · exact k2 d' hd'
    · have e : visO W H l f tol diag px py s d = s := by rw [visO, if_neg ha]
      rw [e]
      obtain ⟨k1, k2, k3⟩ := ih s (fun d' hd' => hL d' (by simp [hd'])) h
      refine ⟨k1, fun d' hd' => ?_, k3⟩
      rcases List.mem_cons.1 hd' with rfl | hd'
      · exact fun h' => absurd h' ha
      · exact k2 d' hd'
def offs : List (Int × Int) := [(-1, -1), (0, -1), (1, -1), (-1, 0), (0, 0), (1, 0), (-1, 1), (0, 1), (1, 1)]
theorem offs_mem (dx dy : Int) (h : -1 ≤ dx) (h' : dx ≤ 1) (k : -1 ≤ dy) (k' : dy ≤ 1) : (dx, dy) ∈ offs := by
  obtain rfl | rfl | rfl : dx = -1 ∨ dx = 0 ∨ dx = 1 := by omega
  all_goals obtain rfl | rfl | rfl : dy = -1 ∨ dy = 0 ∨ dy = 1 := by omega
  all_goals simp [offs]
theorem offs_in (d : Int × Int) (h : d ∈ offs) : -1 ≤ d.1 ∧ d.1 ≤ 1 ∧ -1 ≤ d.2 ∧ d.2 ≤ 1 := by
  simp only [offs, List.mem_cons, List.not_mem_nil, or_false] at h
  rcases h with rfl | rfl | rfl | rfl | rfl | rfl | rfl | rfl | rfl <;> simp
/-- One round of the inner loop. -/
theorem l2_step (hs : sidesOk W H = true) (hl : (l.length : Int) = W * H) {diag : Bool} {px py : Int} (hp : Ins W H px py) (dx dy : Int) (hdx : -1 ≤ dx) (hdx' : dx ≤ 1) (hdy : -1 ≤ dy) (hdy' : dy ≤ 1) (s : List Int × List S26) (hV : (s.1.length : Int) = W * H) (hst : s.2.length ≤ 65536) {r : Int × Int × List Int × Int}
    (h : Ev (fun k => wand_Flood.l2 k diag dy (dx + 1) W H l tol W H (visO W H l f tol diag px py s (dx, dy)).1 f.f0 f.f1 f.f2 f.f3 (visO W H l f tol diag px py s (dx, dy)).2 px py) r) :
    Ev (fun k => wand_Flood.l2 k diag dy dx W H l tol W H s.1 f.f0 f.f1 f.f2 f.f3 s.2 px py) r := by
  have hsd := (sidesOk_iff W H).1 hs
  obtain ⟨p1, p2, p3, p4⟩ := hp
  refine .step (fun k => by rw [wand_Flood.l2, if_pos hdx', w64 (show -9223372036854775808 ≤ px + dx by omega) (by omega), w64 (show -9223372036854775808 ≤ py + dy by omega) (by omega), w64 (show -9223372036854775808 ≤ dx + 1 by omega) (by omega)]) ?_
  have v := visit_eq (f := f) (tol := tol) hs hl (px + dx) (py + dy) s.1 s.2 hV hst
  by_cases h1 : diag = true
  · simp only [if_pos h1]
    refine v.bind ?_
    rw [visO, if_pos (.inl h1)] at h
    exact h
  simp only [if_neg h1]
  by_cases h2 : dx = 0
  · simp only [if_pos h2]
    refine v.bind ?_
    rw [visO, if_pos (.inr (.inl h2))] at h
    exact h
  simp only [if_neg h2]
  by_cases h3 : dy = 0
  · simp only [if_pos h3]
    refine v.bind ?_
    rw [visO, if_pos (.inr (.inr h3))] at h
    exact h
  simp only [if_neg h3]
  rw [visO, if_neg (fun h => h.elim h1 fun h => h.elim h2 h3)] at h
  exact h
theorem l2_all (hs : sidesOk W H = true) (hl : (l.length : Int) = W * H) {diag : Bool} {px py : Int} (hp : Ins W H px py) {M T : Int → Int → Prop} {K : Nat} (hK : K ≤ 65536) (dy : Int) (hdy : -1 ≤ dy) (hdy' : dy ≤ 1) (s : List Int × List S26) (hm : Mid W H (simS W l f tol) diag px py M T K s) {r : Int × Int × List Int × Int}
    (h : Ev (fun k => wand_Flood.l1 k diag (dy + 1) W H l tol W H ([(-1, dy), (0, dy), (1, dy)].foldl (visO W H l f tol diag px py) s).1 f.f0 f.f1 f.f2 f.f3 ([(-1, dy), (0, dy), (1, dy)].foldl (visO W H l f tol diag px py) s).2 px py) r) :
    Ev (fun k => wand_Flood.l1 k diag dy W H l tol W H s.1 f.f0 f.f1 f.f2 f.f3 s.2 px py) r := by
  have small : ∀ {s}, Mid W H (simS W l f tol) diag px py M T K s → s.2.length ≤ 65536 := fun h => by have := h.count; omega
  have m1 := (hm.visits [(-1, dy)] s (by simp [hdy, hdy'])).1
  have m2 := (m1.visits [(0, dy)] _ (by simp [hdy, hdy'])).1
  have m3 := (m2.visits [(1, dy)] _ (by simp [hdy, hdy'])).1
  refine .step (fun k => by rw [wand_Flood.l1, if_pos hdy']) ?_
  refine l2_step hs hl hp (-1) dy (by omega) (by omega) hdy hdy' s hm.len (small hm) ?_
  refine l2_step hs hl hp 0 dy (by omega) (by omega) hdy hdy' _ m1.len (small m1) ?_
  refine l2_step hs hl hp 1 dy (by omega) (by omega) hdy hdy' _ m2.len (small m2) ?_
  refine .step (fun k => by rw [wand_Flood.l2, if_neg (by omega), w64 (show -9223372036854775808 ≤ dy + 1 by omega) (by omega)]) ?_
  exact h
theorem l1_all (hs : sidesOk W H = true) (hl : (l.length : Int) = W * H) {diag : Bool} {px py : Int} (hp : Ins W H px py) {M T : Int → Int → Prop} {K : Nat} (hK : K ≤ 65536) (s : List Int × List S26) (hm : Mid W H (simS W l f tol) diag px py M T K s) {r : Int × Int × List Int × Int}
    (h : Ev (fun k => wand_Flood.l0 k diag W H l tol W H (offs.foldl (visO W H l f tol diag px py) s).1 f.f0 f.f1 f.f2 f.f3 (offs.foldl (visO W H l f tol diag px py) s).2) r) :
    Ev (fun k => wand_Flood.l1 k diag (-1) W H l tol W H s.1 f.f0 f.f1 f.f2 f.f3 s.2 px py) r := by
  have m1 := (hm.visits [(-1, -1), (0, -1), (1, -1)] s (by simp)).1
  have m2 := (m1.visits [(-1, 0), (0, 0), (1, 0)] _ (by simp)).1
  refine l2_all hs hl hp hK (-1) (by omega) (by omega) s hm ?_
  refine l2_all hs hl hp hK 0 (by omega) (by omega) _ m1 ?_
  refine l2_all hs hl hp hK 1 (by omega) (by omega) _ m2 ?_
  refine .step (fun k => by rw [wand_Flood.l1, if_neg (by omega)]) ?_
  exact h
/-- What the mask is in the end. -/
structure IsFlood (W H : Int) (l : List S37) (f : S37) (tol : Int) (diag : Bool) (x0 y0 : Int) (V : List Int) : Prop where
  len : (V.length : Int) = W * H
  on : ∀ x y, Ins W H x y → Reach W H (simS W l f tol) diag x0 y0 x y → rd V (y * W + x) = 65535
  off : ∀ x y, Ins W H x y → ¬ Reach W H (simS W l f tol) diag x0 y0 x y → rd V (y * W + x) = 0
theorem floodLoop (hs : sidesOk W H = true) (hl : (l.length : Int) = W * H) {diag : Bool} {x0 y0 : Int} (h0 : Ins W H x0 y0) : ∀ (n : Nat) (s : List Int × List S26), cnt s.1 + s.2.length = n → n ≤ 65536 → (s.1.length : Int) = W * H → (∀ i, 0 ≤ i → rd s.1 i = 0 ∨ rd s.1 i = 65535) → AInv W H (simS W l f tol) diag x0 y0 (MV W H s.1) (TS s.2) →
    ∃ V, IsFlood W H l f tol diag x0 y0 V ∧ Ev (fun k => wand_Flood.l0 k diag W H l tol W H s.1 f.f0 f.f1 f.f2 f.f3 s.2) (W, H, V, 0) := by
  intro n
  induction n with
  | zero =>
    intro s hn hn' hV hv hI
    have e : s.2 = [] := List.eq_nil_of_length_eq_zero (by omega)
    have hd := hI.done (fun x y ht => by simp [TS, e] at ht)
    refine ⟨s.1, ⟨hV, fun x y hi hr => ((hv _ (place_in hi).1).resolve_left ((hd x y).2 hr).2), fun x y hi hr => ?_⟩, .step (f := fun _ => some (W, H, s.1, 0)) (fun k => by rw [wand_Flood.l0, if_neg (by simp [e])]) (.now _)⟩
    exact Classical.byContradiction fun h => hr ((hd x y).1 ⟨hi, h⟩)
  | succ n ih =>
    intro s hn hn' hV hv hI
    by_cases e : s.2 = []
    · have hd := hI.done (fun x y ht => by simp [TS, e] at ht)
      refine ⟨s.1, ⟨hV, fun x y hi hr => ((hv _ (place_in hi).1).resolve_left ((hd x y).2 hr).2), fun x y hi hr => ?_⟩, .step (f := fun _ => some (W, H, s.1, 0)) (fun k => by rw [wand_Flood.l0, if_neg (by simp [e])]) (.now _)⟩
      exact Classical.byContradiction fun h => hr ((hd x y).1 ⟨hi, h⟩)
    · obtain ⟨st, p, hst⟩ : ∃ st p, s.2 = st ++ [p] := ⟨s.2.dropLast, s.2.getLast e, (List.dropLast_concat_getLast e).symm⟩
      obtain ⟨V, st0⟩ := s
      simp only at hst
      subst hst
      have hlen : (st ++ [p]).length = st.length + 1 := by simp
      have hpt : TS (st ++ [p]) p.f0 p.f1 := by simp [TS]
      have hpi : Ins W H p.f0 p.f1 := (hI.todo _ _ hpt).1
      simp only [hlen] at hn
      have hm : Mid W H (simS W l f tol) diag p.f0 p.f1 (MV W H V) (TS st) n (V, st) := ⟨.refl _ _, hV, hv, by show cnt V + st.length = n; omega⟩
      obtain ⟨k1, k2, k3⟩ := hm.visits offs (V, st) offs_in
      have hI' : AInv W H (simS W l f tol) diag x0 y0 (MV W H (offs.foldl (visO W H l f tol diag p.f0 p.f1) (V, st)).1) (TS (offs.foldl (visO W H l f tol diag p.f0 p.f1) (V, st)).2) := by
        refine hI.next (px := p.f0) (py := p.f1) (T := TS st) hpt (fun x y ht => ?_) (fun x y ht => ?_) k1.e (fun u v ho hi hsim => ?_)
        · rcases (TS_add st p.f0 p.f1 x y).1 ht with ht | ht
          · exact .inl ht
          · exact .inr ht
        · exact (TS_add st p.f0 p.f1 x y).2 (.inl ht)
        · have := k2 (u - p.f0, v - p.f1) (offs_mem _ _ ho.1 ho.2.1 ho.2.2.1 ho.2.2.2.1) ho.2.2.2.2
          simp only [show p.f0 + (u - p.f0) = u by omega, show p.f1 + (v - p.f1) = v by omega] at this
          exact this hi hsim
      obtain ⟨V', hF, hE⟩ := ih (offs.foldl (visO W H l f tol diag p.f0 p.f1) (V, st)) k1.count (by omega) k1.len k1.vals hI'
      refine ⟨V', hF, ?_⟩
      have e1 : wrap64 (((st ++ [p]).length : Int) - 1) = (st.length : Int) := by rw [w64 (by omega) (by omega), hlen]; omega
      have e2 : (st ++ [p]).take ((st.length : Int)).toNat = st := by simp
      have e3 : rd_T26 (st ++ [p]) (st.length : Int) = p := by simp [rd_T26, List.getD_eq_getElem?_getD]
      show Ev (fun k => wand_Flood.l0 k diag W H l tol W H V f.f0 f.f1 f.f2 f.f3 (st ++ [p])) _
      refine .step (fun k => by rw [wand_Flood.l0, e1, e2, e3, if_pos (by omega), if_pos (by omega), if_pos (by omega), if_pos (by omega)]) ?_
      exact l1_all hs hl hpi (by omega) (V, st) hm hE
end
end Go.Proofs.Ytmmncannibnklaa.Pure
