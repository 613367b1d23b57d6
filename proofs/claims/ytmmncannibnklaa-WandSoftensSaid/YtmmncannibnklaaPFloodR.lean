/- The specification's Flood computes the same mask as the program's. No conditions. -/
import Derived.Test.YtmmncannibnklaaPFlood
import Derived.Test.YtmmncannibnklaaG1
import Derived.Test.YtmmncannibnklaaG3
import Derived.Test.YtmmncannibnklaaG5
import Derived.Test.YtmmncannibnklaaG6
import Derived.Test.YtmmncannibnklaaG7
namespace Go.Proofs.Ytmmncannibnklaa.Pure
open Go.RowKit Go.Proofs.YtmmncannibnklaaW.PrintWords Go.Proofs.YtmmncannibnklaaW.PrintLast Go.Proofs.YtmmncannibnklaaW.PrintMore Go.Proofs.Ytmmncannibnklaa.G
set_option linter.unusedVariables false
set_option linter.unusedSimpArgs false
theorem rdB_nat (V : List Bool) (i : Nat) (h : i < V.length) : rdOf false V (i : Int) = V[i] := by
  simp [rdOf, List.getD_eq_getElem?_getD, List.getElem?_eq_getElem h]
theorem rdB_set (V : List Bool) (i j : Int) (v : Bool) (hi : 0 ≤ i) (hi' : i < V.length) (hj : 0 ≤ j) : rdOf false (V.set i.toNat v) j = if j = i then v else rdOf false V j := by
  obtain ⟨a, rfl⟩ := Int.eq_ofNat_of_zero_le hi
  obtain ⟨b, rfl⟩ := Int.eq_ofNat_of_zero_le hj
  simp only [rdOf, Int.toNat_natCast, List.getD_eq_getElem?_getD, List.getElem?_set]
  have ha : a < V.length := by omega
  by_cases h : a = b
  · subst h; simp [ha]
  · rw [if_neg h, if_neg (by omega)]
def cntB (V : List Bool) : Nat := V.countP (· == false)
theorem cntB_set (V : List Bool) (i : Int) (hi : 0 ≤ i) (hi' : i < V.length) (h : ¬ rdOf false V i = true) : cntB (V.set i.toNat true) + 1 = cntB V := by
  obtain ⟨a, rfl⟩ := Int.eq_ofNat_of_zero_le hi
  have ha : a < V.length := by omega
  have hv : V[a] = false := by rw [rdB_nat V a ha] at h; simpa using h
  have hp : 0 < V.countP (· == false) := List.countP_pos_iff.2 ⟨V[a], List.getElem_mem ha, by simp [hv]⟩
  simp only [cntB, Int.toNat_natCast]
  rw [List.countP_set ha, if_pos (show (V[a] == false) = true by rw [hv]; rfl), if_neg (show ¬ (true == false) = true by decide)]
  omega
/-- One visit. -/
noncomputable def visB (W H : Int) (sim : Int → Int → Prop) (u v : Int) (s : List Bool × List Int) : List Bool × List Int := by
  classical
  exact if Ins W H u v ∧ sim u v ∧ ¬ rdOf false s.1 (v * W + u) = true then (s.1.set (v * W + u).toNat true, s.2 ++ [v * W + u]) else s
noncomputable def visBO (W H : Int) (sim : Int → Int → Prop) (diag : Bool) (px py : Int) (s : List Bool × List Int) (d : Int × Int) : List Bool × List Int :=
  if diag = true ∨ d.1 = 0 ∨ d.2 = 0 then visB W H sim (px + d.1) (py + d.2) s else s
section
variable {W H : Int} {sim : Int → Int → Prop} {sl : List Bool}
def MB (W H : Int) (V : List Bool) (x y : Int) : Prop := Ins W H x y ∧ rdOf false V (y * W + x) = true
def TQ (W H : Int) (q : List Int) (x y : Int) : Prop := Ins W H x y ∧ (y * W + x) ∈ q
structure MidB (W H : Int) (sim : Int → Int → Prop) (diag : Bool) (px py : Int) (M T : Int → Int → Prop) (K i : Nat) (s : List Bool × List Int) : Prop where
  e : Ext W H sim diag px py M T (MB W H s.1) (TQ W H (s.2.drop i))
  len : (s.1.length : Int) = W * H
  vals : ∀ c ∈ s.2, 0 ≤ c ∧ c < W * H
  count : cntB s.1 + s.2.length = K
  done : i ≤ s.2.length
theorem MB_set {V : List Bool} {u v : Int} (hV : (V.length : Int) = W * H) (hi : Ins W H u v) (x y : Int) : MB W H (V.set (v * W + u).toNat true) x y ↔ MB W H V x y ∨ (x = u ∧ y = v) := by
  have hp := place_in hi
  unfold MB
  constructor
  · rintro ⟨h, hr⟩
    rw [rdB_set _ _ _ _ hp.1 (by omega) (place_in h).1] at hr
    by_cases e : y * W + x = v * W + u
    · exact .inr (place_inj h hi e)
    · rw [if_neg e] at hr
      exact .inl ⟨h, hr⟩
  · rintro (⟨h, hr⟩ | ⟨rfl, rfl⟩)
    · refine ⟨h, ?_⟩
      rw [rdB_set _ _ _ _ hp.1 (by omega) (place_in h).1]
      split
      · rfl
      · exact hr
    · refine ⟨hi, ?_⟩
      rw [rdB_set _ _ _ _ hp.1 (by omega) hp.1, if_pos rfl]
theorem TQ_add {q : List Int} {i : Nat} (hq : i ≤ q.length) {u v : Int} (hi : Ins W H u v) (x y : Int) : TQ W H ((q ++ [v * W + u]).drop i) x y ↔ TQ W H (q.drop i) x y ∨ (x = u ∧ y = v) := by
  rw [List.drop_append_of_le_length hq]
  simp only [TQ, List.mem_append, List.mem_singleton]
  constructor
  · rintro ⟨h, h' | h'⟩
    · exact .inl ⟨h, h'⟩
    · exact .inr (place_inj h hi h')
  · rintro (⟨h, h'⟩ | ⟨rfl, rfl⟩)
    · exact ⟨h, .inl h'⟩
    · exact ⟨hi, .inr rfl⟩
theorem MidB.visit {diag : Bool} {px py : Int} {M T : Int → Int → Prop} {K i : Nat} {s : List Bool × List Int} (h : MidB W H sim diag px py M T K i s) {u v : Int} (ho : Off diag (u - px) (v - py)) :
    MidB W H sim diag px py M T K i (visB W H sim u v s) ∧ (Ins W H u v → sim u v → MB W H (visB W H sim u v s).1 u v) ∧ (∀ x y, MB W H s.1 x y → MB W H (visB W H sim u v s).1 x y) := by
  rw [visB]
  by_cases hc : Ins W H u v ∧ sim u v ∧ ¬ rdOf false s.1 (v * W + u) = true
  · rw [if_pos hc]
    obtain ⟨hi, hsim, h0⟩ := hc
    have hp := place_in hi
    have hlen := h.len
    refine ⟨⟨h.e.trans ⟨fun x y hm => (MB_set h.len hi x y).2 (.inl hm), fun x y ht => (TQ_add h.done hi _ _).2 (.inl ht), fun x y hm => ?_, fun x y ht => ?_⟩, by simpa using h.len, fun c hc => ?_, ?_, by have := h.done; simp only [List.length_append]; omega⟩, fun _ _ => (MB_set h.len hi u v).2 (.inr ⟨rfl, rfl⟩), fun x y hm => (MB_set h.len hi x y).2 (.inl hm)⟩
    · rcases (MB_set h.len hi x y).1 hm with hm | ⟨rfl, rfl⟩
      · exact .inl hm
      · exact .inr ⟨(TQ_add h.done hi _ _).2 (.inr ⟨rfl, rfl⟩), ho, hi, hsim⟩
    · rcases (TQ_add h.done hi _ _).1 ht with ht | ⟨rfl, rfl⟩
      · exact .inl ht
      · exact .inr ((MB_set h.len hi x y).2 (.inr ⟨rfl, rfl⟩))
    · rcases List.mem_append.1 hc with hc | hc
      · exact h.vals c hc
      · obtain rfl := List.mem_singleton.1 hc
        exact hp
    · have := cntB_set s.1 (v * W + u) hp.1 (by omega) h0
      have := h.count
      show cntB (s.1.set (v * W + u).toNat true) + (s.2 ++ [v * W + u]).length = K
      rw [List.length_append]
      simp only [List.length_cons, List.length_nil]
      omega
  · rw [if_neg hc]
    refine ⟨h, fun hi hsim => ⟨hi, Classical.byContradiction fun h0 => hc ⟨hi, hsim, h0⟩⟩, fun _ _ hm => hm⟩
theorem MidB.visits {diag : Bool} {px py : Int} {M T : Int → Int → Prop} {K i : Nat} : ∀ (L : List (Int × Int)) (s : List Bool × List Int), (∀ d ∈ L, -1 ≤ d.1 ∧ d.1 ≤ 1 ∧ -1 ≤ d.2 ∧ d.2 ≤ 1) → MidB W H sim diag px py M T K i s →
    MidB W H sim diag px py M T K i (L.foldl (visBO W H sim diag px py) s) ∧ (∀ d ∈ L, (diag = true ∨ d.1 = 0 ∨ d.2 = 0) → Ins W H (px + d.1) (py + d.2) → sim (px + d.1) (py + d.2) → MB W H (L.foldl (visBO W H sim diag px py) s).1 (px + d.1) (py + d.2)) ∧ (∀ x y, MB W H s.1 x y → MB W H (L.foldl (visBO W H sim diag px py) s).1 x y) := by
  intro L
  induction L with
  | nil => intro s _ h; exact ⟨h, fun d hd => by simp at hd, fun _ _ hm => hm⟩
  | cons d L ih =>
    intro s hL h
    have hd := hL d (by simp)
    rw [List.foldl_cons]
    by_cases ha : diag = true ∨ d.1 = 0 ∨ d.2 = 0
    · have ho : Off diag (px + d.1 - px) (py + d.2 - py) := by
        rw [show px + d.1 - px = d.1 by omega, show py + d.2 - py = d.2 by omega]
        exact ⟨hd.1, hd.2.1, hd.2.2.1, hd.2.2.2, ha⟩
      obtain ⟨h1, h2, h3⟩ := h.visit ho
      have e : visBO W H sim diag px py s d = visB W H sim (px + d.1) (py + d.2) s := by rw [visBO, if_pos ha]
      rw [e]
      obtain ⟨k1, k2, k3⟩ := ih (visB W H sim (px + d.1) (py + d.2) s) (fun d' hd' => hL d' (by simp [hd'])) h1
      refine ⟨k1, fun d' hd' => ?_, fun x y hm => k3 x y (h3 x y hm)⟩
      rcases List.mem_cons.1 hd' with rfl | hd'
      · exact fun _ hi hs => k3 _ _ (h2 hi hs)
      · exact k2 d' hd'
    · have e : visBO W H sim diag px py s d = s := by rw [visBO, if_neg ha]
      rw [e]
      obtain ⟨k1, k2, k3⟩ := ih s (fun d' hd' => hL d' (by simp [hd'])) h
      refine ⟨k1, fun d' hd' => ?_, k3⟩
      rcases List.mem_cons.1 hd' with rfl | hd'
      · exact fun h' => absurd h' ha
      · exact k2 d' hd'
theorem r2_step (hs : sidesOk W H = true) (hsl : (sl.length : Int) = W * H) (hsim : ∀ x y, Ins W H x y → (rdOf false sl (y * W + x) = true ↔ sim x y)) {diag : Bool} {px py : Int} (hp : Ins W H px py) (dx dy : Int) (hdx : -1 ≤ dx) (hdx' : dx ≤ 1) (hdy : -1 ≤ dy) (hdy' : dy ≤ 1) (s : List Bool × List Int) (hV : (s.1.length : Int) = W * H) (hst : s.2.length ≤ 65536) {i : Int} {r : List Bool}
    (h : Ev (fun k => imageeditorref24_reached.l2 k W H sl diag (visBO W H sim diag px py s (dx, dy)).1 (visBO W H sim diag px py s (dx, dy)).2 i px py dy (dx + 1)) r) :
    Ev (fun k => imageeditorref24_reached.l2 k W H sl diag s.1 s.2 i px py dy dx) r := by
  have ha := area hs
  have hsd := (sidesOk_iff W H).1 hs
  have hpp := hp
  obtain ⟨p1, p2, p3, p4⟩ := hp
  refine .step (fun k => by rw [imageeditorref24_reached.l2, if_pos hdx', w64 (show -9223372036854775808 ≤ px + dx by omega) (by omega), w64 (show -9223372036854775808 ≤ py + dy by omega) (by omega)]) ?_
  have skip : visBO W H sim diag px py s (dx, dy) = s → Ev (fun k => imageeditorref24_reached.j3 k W H sl diag s.1 s.2 i px py dy dx (px + dx) (py + dy) true) r := by
    intro e
    rw [e] at h
    refine .step (fun k => by rw [imageeditorref24_reached.j3, if_pos rfl, w64 (show -9223372036854775808 ≤ dx + 1 by omega) (by omega)]) h
  have out : ¬ Ins W H (px + dx) (py + dy) → visBO W H sim diag px py s (dx, dy) = s := by
    intro hn
    rw [visBO]
    split
    · rw [visB, if_neg (fun h => hn h.1)]
    · rfl
  by_cases h1 : px + dx < 0
  · simp only [if_pos h1]; exact skip (out fun h => by have := h.1; omega)
  by_cases h2 : py + dy < 0
  · simp only [if_neg h1, if_pos h2]; exact skip (out fun h => by have := h.2.2.1; omega)
  by_cases h3 : px + dx ≥ W
  · simp only [if_neg h1, if_neg h2, if_pos h3]; exact skip (out fun h => by have := h.2.1; omega)
  by_cases h4 : py + dy ≥ H
  · simp only [if_neg h1, if_neg h2, if_neg h3, if_pos h4]; exact skip (out fun h => by have := h.2.2.2; omega)
  simp only [if_neg h1, if_neg h2, if_neg h3, if_neg h4]
  have hi : Ins W H (px + dx) (py + dy) := ⟨by omega, by omega, by omega, by omega⟩
  have go : (diag = true ∨ dx = 0 ∨ dy = 0) → Ev (fun k => imageeditorref24_reached.j3 k W H sl diag s.1 s.2 i px py dy dx (px + dx) (py + dy) false) r := by
    intro hd
    have hq := place_in hi
    have hm := Int.mul_nonneg (show 0 ≤ py + dy by omega) (show 0 ≤ W by omega)
    have e1 : wrap64 ((py + dy) * W) = (py + dy) * W := w64 (by omega) (by omega)
    have e2 : wrap64 ((py + dy) * W + (px + dx)) = (py + dy) * W + (px + dx) := w64 (by omega) (by omega)
    rw [visBO, if_pos hd] at h
    refine .step (fun k => by rw [imageeditorref24_reached.j3, if_neg (by simp), e1, e2, if_pos hq.1, if_pos (by omega), if_pos (show (py + dy) * W + (px + dx) < (s.1.length : Int) by omega), if_pos (show s.2.length < 17592186044416 by omega), w64 (show -9223372036854775808 ≤ dx + 1 by omega) (by omega)]) ?_
    by_cases h5 : sim (px + dx) (py + dy)
    · simp only [if_pos ((hsim _ _ hi).2 h5)]
      by_cases h6 : rdOf false s.1 ((py + dy) * W + (px + dx)) = true
      · simp only [if_pos h6]
        have e : visB W H sim (px + dx) (py + dy) s = s := if_neg (fun h => h.2.2 h6)
        simp only [e] at h
        exact h
      · simp only [if_neg h6]
        have e : visB W H sim (px + dx) (py + dy) s = (s.1.set ((py + dy) * W + (px + dx)).toNat true, s.2 ++ [(py + dy) * W + (px + dx)]) := if_pos ⟨hi, h5, h6⟩
        simp only [e] at h
        exact h
    · simp only [if_neg (fun h => h5 ((hsim _ _ hi).1 h))]
      have e : visB W H sim (px + dx) (py + dy) s = s := if_neg (fun h => h5 h.2.1)
      simp only [e] at h
      exact h
  by_cases h5 : diag = true
  · simp only [if_pos h5]; exact go (.inl h5)
  simp only [if_neg h5]
  by_cases h6 : dx = 0
  · simp only [if_pos h6]; exact go (.inr (.inl h6))
  simp only [if_neg h6]
  by_cases h7 : dy = 0
  · have e : (dy != 0) = false := by simp [h7]
    simp only [e]; exact go (.inr (.inr h7))
  · have e : (dy != 0) = true := by simp [h7]
    simp only [e]
    refine skip ?_
    rw [visBO, if_neg (fun h => h.elim h5 fun h => h.elim h6 h7)]
theorem r2_all (hs : sidesOk W H = true) (hsl : (sl.length : Int) = W * H) (hsim : ∀ x y, Ins W H x y → (rdOf false sl (y * W + x) = true ↔ sim x y)) {diag : Bool} {px py : Int} (hp : Ins W H px py) {M T : Int → Int → Prop} {K j : Nat} (hK : K ≤ 65536) (dy : Int) (hdy : -1 ≤ dy) (hdy' : dy ≤ 1) (s : List Bool × List Int) (hm : MidB W H sim diag px py M T K j s) {i : Int} {r : List Bool}
    (h : Ev (fun k => imageeditorref24_reached.l1 k W H sl diag ([(-1, dy), (0, dy), (1, dy)].foldl (visBO W H sim diag px py) s).1 ([(-1, dy), (0, dy), (1, dy)].foldl (visBO W H sim diag px py) s).2 i px py (dy + 1)) r) :
    Ev (fun k => imageeditorref24_reached.l1 k W H sl diag s.1 s.2 i px py dy) r := by
  have small : ∀ {s}, MidB W H sim diag px py M T K j s → s.2.length ≤ 65536 := fun h => by have := h.count; omega
  have m1 := (hm.visits [(-1, dy)] s (by simp [hdy, hdy'])).1
  have m2 := (m1.visits [(0, dy)] _ (by simp [hdy, hdy'])).1
  have m3 := (m2.visits [(1, dy)] _ (by simp [hdy, hdy'])).1
  refine .step (fun k => by rw [imageeditorref24_reached.l1, if_pos hdy']) ?_
  refine r2_step hs hsl hsim hp (-1) dy (by omega) (by omega) hdy hdy' s hm.len (small hm) ?_
  refine r2_step hs hsl hsim hp 0 dy (by omega) (by omega) hdy hdy' _ m1.len (small m1) ?_
  refine r2_step hs hsl hsim hp 1 dy (by omega) (by omega) hdy hdy' _ m2.len (small m2) ?_
  refine .step (fun k => by rw [imageeditorref24_reached.l2, if_neg (by omega), w64 (show -9223372036854775808 ≤ dy + 1 by omega) (by omega)]) ?_
  exact h
theorem r1_all (hs : sidesOk W H = true) (hsl : (sl.length : Int) = W * H) (hsim : ∀ x y, Ins W H x y → (rdOf false sl (y * W + x) = true ↔ sim x y)) {diag : Bool} {px py : Int} (hp : Ins W H px py) {M T : Int → Int → Prop} {K j : Nat} (hK : K ≤ 65536) (s : List Bool × List Int) (hm : MidB W H sim diag px py M T K j s) {i : Int} (hi : 0 ≤ i) (hi' : i ≤ 65536) {r : List Bool}
    (h : Ev (fun k => imageeditorref24_reached.l0 k W H sl diag (offs.foldl (visBO W H sim diag px py) s).1 (offs.foldl (visBO W H sim diag px py) s).2 (i + 1)) r) :
    Ev (fun k => imageeditorref24_reached.l1 k W H sl diag s.1 s.2 i px py (-1)) r := by
  have m1 := (hm.visits [(-1, -1), (0, -1), (1, -1)] s (by simp)).1
  have m2 := (m1.visits [(-1, 0), (0, 0), (1, 0)] _ (by simp)).1
  refine r2_all hs hsl hsim hp hK (-1) (by omega) (by omega) s hm ?_
  refine r2_all hs hsl hsim hp hK 0 (by omega) (by omega) _ m1 ?_
  refine r2_all hs hsl hsim hp hK 1 (by omega) (by omega) _ m2 ?_
  refine .step (fun k => by rw [imageeditorref24_reached.l1, if_neg (by omega), w64 (show -9223372036854775808 ≤ i + 1 by omega) (by omega)]) ?_
  exact h
theorem reachLoop (hs : sidesOk W H = true) (hW : 0 < W) (hsl : (sl.length : Int) = W * H) (hsim : ∀ x y, Ins W H x y → (rdOf false sl (y * W + x) = true ↔ sim x y)) {diag : Bool} {x0 y0 : Int} (K : Nat) (hK : K ≤ 65536) : ∀ (n : Nat) (i : Nat) (s : List Bool × List Int), i + n = K → cntB s.1 + s.2.length = K → i ≤ s.2.length → (s.1.length : Int) = W * H → (∀ c ∈ s.2, 0 ≤ c ∧ c < W * H) → AInv W H sim diag x0 y0 (MB W H s.1) (TQ W H (s.2.drop i)) →
    ∃ V, (V.length : Int) = W * H ∧ (∀ x y, Ins W H x y → (rdOf false V (y * W + x) = true ↔ Reach W H sim diag x0 y0 x y)) ∧ Ev (fun k => imageeditorref24_reached.l0 k W H sl diag s.1 s.2 (i : Int)) V := by
  have ha := area hs
  have fin : ∀ (i : Nat) (s : List Bool × List Int), i = s.2.length → (s.1.length : Int) = W * H → AInv W H sim diag x0 y0 (MB W H s.1) (TQ W H (s.2.drop i)) → ∃ V, (V.length : Int) = W * H ∧ (∀ x y, Ins W H x y → (rdOf false V (y * W + x) = true ↔ Reach W H sim diag x0 y0 x y)) ∧ Ev (fun k => imageeditorref24_reached.l0 k W H sl diag s.1 s.2 (i : Int)) V := by
    intro i s hi hV hI
    have hd := hI.done (fun x y ht => by simp [TQ, hi] at ht)
    refine ⟨s.1, hV, fun x y hxy => ⟨fun h => (hd x y).1 ⟨hxy, h⟩, fun h => ((hd x y).2 h).2⟩, .step (f := fun _ => some s.1) (fun k => by rw [imageeditorref24_reached.l0, if_neg (by omega)]) (.now _)⟩
  intro n
  induction n with
  | zero => intro i s hn hc hi hV hv hI; exact fin i s (by omega) hV hI
  | succ n ih =>
    intro i s hn hc hi hV hv hI
    by_cases e : i = s.2.length
    · exact fin i s e hV hI
    · have hlt : i < s.2.length := by omega
      have hdr : s.2.drop i = s.2[i] :: s.2.drop (i + 1) := List.drop_eq_getElem_cons hlt
      have hc0 := hv s.2[i] (List.getElem_mem hlt)
      obtain ⟨hpi, hpe⟩ := place_of hW hc0.1 hc0.2
      have hpt : TQ W H (s.2.drop i) (s.2[i] % W) (s.2[i] / W) := ⟨hpi, by rw [hpe, hdr]; exact List.mem_cons_self⟩
      have hm : MidB W H sim diag (s.2[i] % W) (s.2[i] / W) (MB W H s.1) (TQ W H (s.2.drop (i + 1))) K (i + 1) s := ⟨.refl _ _, hV, hv, hc, hlt⟩
      obtain ⟨k1, k2, k3⟩ := hm.visits offs s offs_in
      have hI' : AInv W H sim diag x0 y0 (MB W H (offs.foldl (visBO W H sim diag (s.2[i] % W) (s.2[i] / W)) s).1) (TQ W H ((offs.foldl (visBO W H sim diag (s.2[i] % W) (s.2[i] / W)) s).2.drop (i + 1))) := by
        refine hI.next (px := s.2[i] % W) (py := s.2[i] / W) (T := TQ W H (s.2.drop (i + 1))) hpt (fun x y ht => ?_) (fun x y ht => ?_) k1.e (fun u v ho hi hsim' => ?_)
        · obtain ⟨h1, h2⟩ := ht
          rw [hdr] at h2
          rcases List.mem_cons.1 h2 with h2 | h2
          · rw [← hpe] at h2
            exact .inr (place_inj h1 hpi h2)
          · exact .inl ⟨h1, h2⟩
        · exact ⟨ht.1, by rw [hdr]; exact List.mem_cons_of_mem _ ht.2⟩
        · have := k2 (u - s.2[i] % W, v - s.2[i] / W) (offs_mem _ _ ho.1 ho.2.1 ho.2.2.1 ho.2.2.2.1) ho.2.2.2.2
          simp only [show s.2[i] % W + (u - s.2[i] % W) = u by omega, show s.2[i] / W + (v - s.2[i] / W) = v by omega] at this
          exact this hi hsim'
      obtain ⟨V', hF, hR, hE⟩ := ih (i + 1) (offs.foldl (visBO W H sim diag (s.2[i] % W) (s.2[i] / W)) s) (by omega) k1.count k1.done k1.len k1.vals hI'
      refine ⟨V', hF, hR, ?_⟩
      have e1 : rd s.2 (i : Int) = s.2[i] := rd_nat s.2 i hlt
      have e2 : Int.tmod s.2[i] W = s.2[i] % W := Int.tmod_eq_emod_of_nonneg hc0.1
      have e3 : Int.tdiv s.2[i] W = s.2[i] / W := Int.tdiv_eq_ediv_of_nonneg hc0.1
      have hq : 0 ≤ s.2[i] / W ∧ s.2[i] / W ≤ 256 := ⟨hpi.2.2.1, by have := hpi.2.2.2; have := ((sidesOk_iff W H).1 hs).2.2.2.1; omega⟩
      refine .step (fun k => by rw [imageeditorref24_reached.l0, e1, e2, e3, if_pos (by omega), if_pos (by omega), if_neg (by omega), w64 (by omega) (by omega)]) ?_
      exact r1_all hs hsl hsim hpi hK s hm (by omega) (by omega) hE
end
/-- Two lists that agree at each place. -/
theorem ext_rd {V V' : List Int} (hl : V.length = V'.length) (h : ∀ i : Int, 0 ≤ i → i < V.length → rd V i = rd V' i) : V = V' := by
  refine List.ext_getElem hl fun i h1 h2 => ?_
  rw [← rd_nat V i h1, ← rd_nat V' i h2]
  exact h i (by omega) (by omega)
theorem IsFlood.same {W H : Int} {l : List S37} {f : S37} {tol : Int} {diag : Bool} {x0 y0 : Int} {V V' : List Int} (h0 : Ins W H x0 y0) (h : IsFlood W H l f tol diag x0 y0 V) (h' : IsFlood W H l f tol diag x0 y0 V') : V = V' := by
  have e1 := h.len
  have e2 := h'.len
  have hW : 0 < W := by have := h0.1; have := h0.2.1; omega
  refine ext_rd (by omega) fun i hi hi' => ?_
  obtain ⟨hp, he⟩ := place_of hW hi (by rw [← h.len]; exact hi')
  rw [← he]
  by_cases hr : Reach W H (simS W l f tol) diag x0 y0 (i % W) (i / W)
  · rw [h.on _ _ hp hr, h'.on _ _ hp hr]
  · rw [h.off _ _ hp hr, h'.off _ _ hp hr]
theorem simLoop (l : List S37) (hl : (l.length : Int) ≤ 65536) (tol : Int) (diag : Bool) (place W H : Int) (hp : 0 ≤ place) (hp' : place < l.length) {r : Int × Int × List Int × Int}
    (h : Ev (fun k => (imageeditorref24_reached.f k W H place (l.map fun p => decide (distS p (rd_T37 l place) ≤ tol)) diag).bind fun t => imageeditorref24_Flood.l1 k t (t.length : Int) 0 W H []) r) :
    ∀ (n i : Nat), i + n = l.length → Ev (fun k => imageeditorref24_Flood.l0 k tol diag place ((l.take i).map fun p => decide (distS p (rd_T37 l place) ≤ tol)) (l.length : Int) (i : Int) W H l) r := by
  intro n
  induction n with
  | zero =>
    intro i hi
    refine .step (fun k => by rw [imageeditorref24_Flood.l0, if_neg (by omega), List.take_of_length_le (show l.length ≤ i by omega)]) ?_
    exact h
  | succ n ih =>
    intro i hi
    have hlt : i < l.length := by omega
    refine .step (fun k => by rw [imageeditorref24_Flood.l0, if_pos (by omega), if_pos (by omega), if_pos (by omega), if_pos hp, if_pos hp', w64 (by omega) (by omega)]) ?_
    refine Ev.bind (dist_eq' _ _ _ _ _ _ _ _) ?_
    have hc : ((l.take i).map fun p => decide (distS p (rd_T37 l place) ≤ tol)).length < 140737488355328 := by simp only [List.length_map, List.length_take]; omega
    simp only [if_pos hc]
    have := ih (i + 1) (by omega)
    rw [List.take_succ_eq_append_getElem hlt, List.map_append] at this
    rw [rd_get l i hlt]
    exact this
theorem maskLoop (on : List Bool) (ho : (on.length : Int) ≤ 65536) (W H : Int) : ∀ (n i : Nat), i + n = on.length → Ev (fun k => imageeditorref24_Flood.l1 k on (on.length : Int) (i : Int) W H ((on.take i).map fun b => if b = true then 65535 else 0)) (W, H, on.map (fun b => if b = true then (65535 : Int) else 0), 0) := by
  intro n
  induction n with
  | zero =>
    intro i hi
    refine .step (fun k => by rw [imageeditorref24_Flood.l1, if_neg (by omega), List.take_of_length_le (show on.length ≤ i by omega)]) (.now _)
  | succ n ih =>
    intro i hi
    have hlt : i < on.length := by omega
    refine .step (fun k => by rw [imageeditorref24_Flood.l1, if_pos (by omega), if_pos (by omega), if_pos (by omega), w64 (by omega) (by omega)]) ?_
    have hc : ((on.take i).map fun b => if b = true then (65535 : Int) else 0).length < 17592186044416 := by simp only [List.length_map, List.length_take]; omega
    simp only [if_pos hc]
    have := ih (i + 1) (by omega)
    rw [List.take_succ_eq_append_getElem hlt, List.map_append] at this
    rw [rdB_nat on i hlt]
    by_cases hb : on[i] = true
    · simp only [if_pos hb]
      simp only [List.map_cons, List.map_nil, if_pos hb] at this
      exact this
    · simp only [if_neg hb]
      simp only [List.map_cons, List.map_nil, if_neg hb] at this
      exact this
theorem rd_map (l : List Bool) (i : Int) (h : 0 ≤ i) (h' : i < l.length) : rd (l.map fun b => if b = true then (65535 : Int) else 0) i = if rdOf false l i = true then 65535 else 0 := by
  obtain ⟨a, rfl⟩ := Int.eq_ofNat_of_zero_le h
  have ha : a < l.length := by omega
  rw [rd_nat _ a (by simpa using ha), rdB_nat l a ha, List.getElem_map]
theorem rdB_map (l : List S37) (g : S37 → Bool) (i : Int) (h : 0 ≤ i) (h' : i < l.length) : rdOf false (l.map g) i = g (rd_T37 l i) := by
  obtain ⟨a, rfl⟩ := Int.eq_ofNat_of_zero_le h
  have ha : a < l.length := by omega
  rw [rdB_nat _ a (by simpa using ha), rd_get l a ha, List.getElem_map]
theorem unit_eq (a : Int) : wand_isUnit.f a = some (decide (0 ≤ a ∧ a ≤ 65535)) := by
  unfold wand_isUnit.f
  by_cases h : a ≥ 0
  · rw [if_pos h]; simp [show 0 ≤ a from h]
  · rw [if_neg h]; simp [show ¬ 0 ≤ a from h]
theorem unit_eq' (a : Int) : imageeditorref24_unit.f a = some (decide (0 ≤ a ∧ a ≤ 65535)) := unit_eq a
/-- What Flood returns: its mask and error. -/
structure Floods (W H : Int) (l : List S37) (ax ay tol : Int) (diag : Bool) (r : Int × Int × List Int × Int) : Prop where
  bad : chk W H l ≠ 0 → r = (0, 0, [], chk W H l)
  out : chk W H l = 0 → ¬ (Ins W H ax ay ∧ 0 ≤ tol ∧ tol ≤ 65535) → r = (0, 0, [], 2)
  good : chk W H l = 0 → (Ins W H ax ay ∧ 0 ≤ tol ∧ tol ≤ 65535) → ∃ V, r = (W, H, V, 0) ∧ IsFlood W H l (rd_T37 l (ay * W + ax)) tol diag ax ay V
theorem Floods.same {W H : Int} {l : List S37} {ax ay tol : Int} {diag : Bool} {r r' : Int × Int × List Int × Int} (h : Floods W H l ax ay tol diag r) (h' : Floods W H l ax ay tol diag r') : r = r' := by
  by_cases h1 : chk W H l = 0
  · by_cases h2 : Ins W H ax ay ∧ 0 ≤ tol ∧ tol ≤ 65535
    · obtain ⟨V, rfl, f⟩ := h.good h1 h2
      obtain ⟨V', rfl, f'⟩ := h'.good h1 h2
      rw [f.same h2.1 f']
    · rw [h.out h1 h2, h'.out h1 h2]
  · rw [h.bad h1, h'.bad h1]
theorem floods (W H : Int) (l : List S37) (ax ay tol : Int) (diag : Bool) : ∃ r, Floods W H l ax ay tol diag r ∧ Ev (fun k => wand_Flood.f k W H l ax ay tol diag) r := by
  have start : ∀ {r}, Ev (fun k => if chk W H l = 0 then (if ax < 0 then (wand_Flood.j0 k diag true W H l ax ay tol) else (if ax ≥ W then (wand_Flood.j0 k diag true W H l ax ay tol) else (if ay < 0 then (wand_Flood.j0 k diag true W H l ax ay tol) else (if ay ≥ H then (wand_Flood.j0 k diag true W H l ax ay tol) else ((wand_isUnit.f tol).bind fun t153 => (wand_Flood.j0 k diag (!t153) W H l ax ay tol)))))) else (some (0, 0, ([] : List Int), chk W H l))) r → Ev (fun k => wand_Flood.f k W H l ax ay tol diag) r := fun h => (check_eq W H l).bind h
  by_cases h1 : chk W H l = 0
  rotate_left
  · refine ⟨(0, 0, [], chk W H l), ⟨fun _ => rfl, fun h => absurd h h1, fun h => absurd h h1⟩, start ?_⟩
    simp only [if_neg h1]
    exact .now _
  simp only [if_pos h1, unit_eq, Option.bind_some] at start
  have bad : Ev (fun k => wand_Flood.j0 k diag true W H l ax ay tol) (0, 0, [], 2) := .step (f := fun _ => some (0, 0, [], 2)) (fun k => by rw [wand_Flood.j0, if_pos rfl]) (.now _)
  by_cases h2 : Ins W H ax ay ∧ 0 ≤ tol ∧ tol ≤ 65535
  rotate_left
  · refine ⟨(0, 0, [], 2), ⟨fun h => absurd h1 h, fun _ _ => rfl, fun _ h => absurd h h2⟩, start ?_⟩
    by_cases c1 : ax < 0
    · simp only [if_pos c1]; exact bad
    by_cases c2 : ax ≥ W
    · simp only [if_neg c1, if_pos c2]; exact bad
    by_cases c3 : ay < 0
    · simp only [if_neg c1, if_neg c2, if_pos c3]; exact bad
    by_cases c4 : ay ≥ H
    · simp only [if_neg c1, if_neg c2, if_neg c3, if_pos c4]; exact bad
    simp only [if_neg c1, if_neg c2, if_neg c3, if_neg c4]
    rw [decide_eq_false (fun h => h2 ⟨⟨by omega, by omega, by omega, by omega⟩, h⟩)]
    exact bad
  obtain ⟨hs, hl, _⟩ := chk_ok h1
  have ha := area hs
  have hsd := (sidesOk_iff W H).1 hs
  obtain ⟨hi, ht⟩ := h2
  have hp := place_in hi
  obtain ⟨i1, i2, i3, i4⟩ := hi
  have hi : Ins W H ax ay := ⟨i1, i2, i3, i4⟩
  have hm := Int.mul_nonneg i3 (show 0 ≤ W by omega)
  have e1 : wrap64 (ay * W) = ay * W := w64 (by omega) (by omega)
  have e2 : wrap64 (ay * W + ax) = ay * W + ax := w64 (by omega) (by omega)
  have e3 : ((l.length : Int)).toNat = l.length := by omega
  have z0 : ∀ i, 0 ≤ i → rd (List.replicate l.length (0 : Int)) i = 0 := by
    intro i hi
    simp only [rd, List.getD_eq_getElem?_getD, List.getElem?_replicate]
    split <;> rfl
  have hv : vis W H l (rd_T37 l (ay * W + ax)) tol ax ay (List.replicate l.length (0 : Int), []) = ((List.replicate l.length (0 : Int)).set (ay * W + ax).toNat 65535, [⟨ax, ay⟩]) := by
    have hd : simS W l (rd_T37 l (ay * W + ax)) tol ax ay := by
      show distS _ _ ≤ tol
      rw [distS, dist_self]
      exact ht.1
    rw [vis, if_pos ⟨hi, z0 _ hp.1, hd⟩]
    rfl
  have hrl : ((List.replicate l.length (0 : Int)).length : Int) = W * H := by simpa using hl
  have hM : ∀ x y, MV W H ((List.replicate l.length (0 : Int)).set (ay * W + ax).toNat 65535) x y ↔ x = ax ∧ y = ay := by
    intro x y
    rw [MV_set hrl hi]
    constructor
    · rintro (⟨h, h'⟩ | h)
      · exact absurd (z0 _ (place_in h).1) h'
      · exact h
    · exact .inr
  have hc := cnt_set (List.replicate l.length (0 : Int)) (ay * W + ax) hp.1 (by omega) (z0 _ hp.1)
  have hc' : cnt (List.replicate l.length (0 : Int)) ≤ l.length := by have := List.countP_le_length (p := (· == (0 : Int))) (l := List.replicate l.length (0 : Int)); simpa [cnt] using this
  obtain ⟨V, hF, hE⟩ := floodLoop (f := rd_T37 l (ay * W + ax)) (tol := tol) (diag := diag) hs hl hi (cnt (List.replicate l.length (0 : Int))) ((List.replicate l.length (0 : Int)).set (ay * W + ax).toNat 65535, [⟨ax, ay⟩]) (by simpa using hc) (by omega) (by simpa using hl) (fun i hi' => by
      show rd ((List.replicate l.length (0 : Int)).set (ay * W + ax).toNat 65535) i = 0 ∨ rd ((List.replicate l.length (0 : Int)).set (ay * W + ax).toNat 65535) i = 65535
      rw [rd_set _ _ _ _ hp.1 (by omega) hi']
      split
      · exact .inr rfl
      · exact .inl (z0 _ hi')) ⟨(hM _ _).2 ⟨rfl, rfl⟩, fun x y h => by obtain ⟨rfl, rfl⟩ := (hM _ _).1 h; exact .base, fun x y h => (hM _ _).2 (by simpa [TS] using h), fun x y h => .inl (by obtain ⟨rfl, rfl⟩ := (hM _ _).1 h; simp [TS])⟩
  refine ⟨(W, H, V, 0), ⟨fun h => absurd h1 h, fun _ h => absurd ⟨hi, ht⟩ h, fun _ _ => ⟨V, rfl, hF⟩⟩, start ?_⟩
  simp only [if_neg (show ¬ ax < 0 by omega), if_neg (show ¬ ax ≥ W by omega), if_neg (show ¬ ay < 0 by omega), if_neg (show ¬ ay ≥ H by omega), decide_eq_true ht, Bool.not_true]
  refine .step (fun k => by rw [wand_Flood.j0, if_neg (by simp), e1, e2, e3, if_pos (by omega), if_pos (show l.length ≤ 35184372088832 by omega), if_pos hp.1, if_pos (by omega)]) ?_
  refine Ev.bind (visit_eq hs hl ax ay _ [] hrl (by simp)) ?_
  rw [hv]
  exact hE
theorem floods' (W H : Int) (l : List S37) (ax ay tol : Int) (diag : Bool) : ∃ r, Floods W H l ax ay tol diag r ∧ Ev (fun k => imageeditorref24_Flood.f k W H l ax ay tol diag) r := by
  have start : ∀ {r}, Ev (fun k => if chk W H l = 0 then (if ax < 0 then (imageeditorref24_Flood.j0 k tol diag true W H l ax ay) else (if ax ≥ W then (imageeditorref24_Flood.j0 k tol diag true W H l ax ay) else (if ay < 0 then (imageeditorref24_Flood.j0 k tol diag true W H l ax ay) else (if ay ≥ H then (imageeditorref24_Flood.j0 k tol diag true W H l ax ay) else ((imageeditorref24_unit.f tol).bind fun t243 => (imageeditorref24_Flood.j0 k tol diag (!t243) W H l ax ay)))))) else (some (0, 0, ([] : List Int), chk W H l))) r → Ev (fun k => imageeditorref24_Flood.f k W H l ax ay tol diag) r := fun h => (check_eq' W H l).bind h
  by_cases h1 : chk W H l = 0
  rotate_left
  · refine ⟨(0, 0, [], chk W H l), ⟨fun _ => rfl, fun h => absurd h h1, fun h => absurd h h1⟩, start ?_⟩
    simp only [if_neg h1]
    exact .now _
  simp only [if_pos h1, unit_eq', Option.bind_some] at start
  have bad : Ev (fun k => imageeditorref24_Flood.j0 k tol diag true W H l ax ay) (0, 0, [], 2) := .step (f := fun _ => some (0, 0, [], 2)) (fun k => by rw [imageeditorref24_Flood.j0, if_pos rfl]) (.now _)
  by_cases h2 : Ins W H ax ay ∧ 0 ≤ tol ∧ tol ≤ 65535
  rotate_left
  · refine ⟨(0, 0, [], 2), ⟨fun h => absurd h1 h, fun _ _ => rfl, fun _ h => absurd h h2⟩, start ?_⟩
    by_cases c1 : ax < 0
    · simp only [if_pos c1]; exact bad
    by_cases c2 : ax ≥ W
    · simp only [if_neg c1, if_pos c2]; exact bad
    by_cases c3 : ay < 0
    · simp only [if_neg c1, if_neg c2, if_pos c3]; exact bad
    by_cases c4 : ay ≥ H
    · simp only [if_neg c1, if_neg c2, if_neg c3, if_pos c4]; exact bad
    simp only [if_neg c1, if_neg c2, if_neg c3, if_neg c4]
    rw [decide_eq_false (fun h => h2 ⟨⟨by omega, by omega, by omega, by omega⟩, h⟩)]
    exact bad
  obtain ⟨hs, hl, _⟩ := chk_ok h1
  have ha := area hs
  have hsd := (sidesOk_iff W H).1 hs
  obtain ⟨hi, ht⟩ := h2
  have hp := place_in hi
  obtain ⟨i1, i2, i3, i4⟩ := hi
  have hi : Ins W H ax ay := ⟨i1, i2, i3, i4⟩
  have hm := Int.mul_nonneg i3 (show 0 ≤ W by omega)
  have e1 : wrap64 (ay * W) = ay * W := w64 (by omega) (by omega)
  have e2 : wrap64 (ay * W + ax) = ay * W + ax := w64 (by omega) (by omega)
  generalize hsl : (l.map fun p => decide (distS p (rd_T37 l (ay * W + ax)) ≤ tol)) = sl
  have hsll : (sl.length : Int) = W * H := by rw [← hsl]; simpa using hl
  have e3 : ((sl.length : Int)).toNat = sl.length := by omega
  have hsim : ∀ x y, Ins W H x y → (rdOf false sl (y * W + x) = true ↔ simS W l (rd_T37 l (ay * W + ax)) tol x y) := by
    intro x y h
    rw [← hsl, rdB_map l _ _ (place_in h).1 (by rw [hl]; exact (place_in h).2)]
    simp [simS]
  have z0 : ∀ i, 0 ≤ i → ¬ rdOf false (List.replicate sl.length false) i = true := by
    intro i hi
    simp only [rdOf, List.getD_eq_getElem?_getD, List.getElem?_replicate]
    split <;> simp
  have hrl : ((List.replicate sl.length false).length : Int) = W * H := by simpa using hsll
  have hM : ∀ x y, MB W H ((List.replicate sl.length false).set (ay * W + ax).toNat true) x y ↔ x = ax ∧ y = ay := by
    intro x y
    rw [MB_set hrl hi]
    constructor
    · rintro (⟨h, h'⟩ | h)
      · exact absurd h' (z0 _ (place_in h).1)
      · exact h
    · exact .inr
  have hc := cntB_set (List.replicate sl.length false) (ay * W + ax) hp.1 (by omega) (z0 _ hp.1)
  have hc' : cntB (List.replicate sl.length false) ≤ sl.length := by have := List.countP_le_length (p := (· == false)) (l := List.replicate sl.length false); simpa [cntB] using this
  obtain ⟨V, hV, hR, hE⟩ := reachLoop (sim := simS W l (rd_T37 l (ay * W + ax)) tol) (diag := diag) (x0 := ax) (y0 := ay) hs (by omega) hsll hsim (cntB (List.replicate sl.length false)) (by omega) (cntB (List.replicate sl.length false)) 0 ((List.replicate sl.length false).set (ay * W + ax).toNat true, [ay * W + ax]) (by omega) (by simpa using hc) (by simp) (by simpa using hsll) (fun c hc => by
      obtain rfl := List.mem_singleton.1 hc
      exact hp) ⟨(hM _ _).2 ⟨rfl, rfl⟩, fun x y h => by obtain ⟨rfl, rfl⟩ := (hM _ _).1 h; exact .base, fun x y h => (hM _ _).2 (place_inj h.1 hi (by simpa using h.2)), fun x y h => .inl (by obtain ⟨rfl, rfl⟩ := (hM _ _).1 h; exact ⟨hi, by simp⟩)⟩
  refine ⟨(W, H, V.map (fun b => if b = true then (65535 : Int) else 0), 0), ⟨fun h => absurd h1 h, fun _ h => absurd ⟨hi, ht⟩ h, fun _ _ => ⟨_, rfl, by simpa using hV, fun x y h hr => ?_, fun x y h hr => ?_⟩⟩, start ?_⟩
  · rw [rd_map V _ (place_in h).1 (by rw [hV]; exact (place_in h).2), if_pos ((hR x y h).2 hr)]
  · rw [rd_map V _ (place_in h).1 (by rw [hV]; exact (place_in h).2), if_neg (fun h' => hr ((hR x y h).1 h'))]
  simp only [if_neg (show ¬ ax < 0 by omega), if_neg (show ¬ ax ≥ W by omega), if_neg (show ¬ ay < 0 by omega), if_neg (show ¬ ay ≥ H by omega), decide_eq_true ht, Bool.not_true]
  refine .step (fun k => by rw [imageeditorref24_Flood.j0, if_neg (by simp), e1, e2]) ?_
  refine simLoop l (by omega) tol diag (ay * W + ax) W H hp.1 (by omega) ?_ l.length 0 (by omega)
  rw [hsl]
  refine Ev.bind (a := V) ?_ (by simpa using maskLoop V (by omega) W H V.length 0 (by omega))
  unfold imageeditorref24_reached.f
  simp only [e3, if_pos (show (0 : Int) ≤ (sl.length : Int) by omega), if_pos (show sl.length ≤ 281474976710656 by omega), Option.bind_some, if_pos hp.1, if_pos (show ay * W + ax < ((List.replicate sl.length false).length : Int) by omega)]
  exact hE
end Go.Proofs.Ytmmncannibnklaa.Pure
