/- What can be reached from a place by steps to similar neighbors; a search that ends has found just that. No conditions. -/
import Derived.Test.YtmmncannibnklaaPBase
namespace Go.Proofs.Ytmmncannibnklaa.Pure
open Go.RowKit Go.Proofs.YtmmncannibnklaaW.PrintWords Go.Proofs.YtmmncannibnklaaW.PrintLast Go.Proofs.YtmmncannibnklaaW.PrintMore Go.Proofs.Ytmmncannibnklaa.G
set_option linter.unusedVariables false
set_option linter.unusedSimpArgs false
/-- Inside. -/
def Ins (W H x y : Int) : Prop := 0 ≤ x ∧ x < W ∧ 0 ≤ y ∧ y < H
/-- A step to a neighbor. -/
def Off (diag : Bool) (dx dy : Int) : Prop := -1 ≤ dx ∧ dx ≤ 1 ∧ -1 ≤ dy ∧ dy ≤ 1 ∧ (diag = true ∨ dx = 0 ∨ dy = 0)
inductive Reach (W H : Int) (sim : Int → Int → Prop) (diag : Bool) (x0 y0 : Int) : Int → Int → Prop
  | base : Reach W H sim diag x0 y0 x0 y0
  | step {x y u v : Int} : Reach W H sim diag x0 y0 x y → Off diag (u - x) (v - y) → Ins W H u v → sim u v → Reach W H sim diag x0 y0 u v
def Closed (W H : Int) (sim : Int → Int → Prop) (diag : Bool) (M : Int → Int → Prop) (x y : Int) : Prop := ∀ u v, Off diag (u - x) (v - y) → Ins W H u v → sim u v → M u v
structure AInv (W H : Int) (sim : Int → Int → Prop) (diag : Bool) (x0 y0 : Int) (M T : Int → Int → Prop) : Prop where
  start : M x0 y0
  reach : ∀ x y, M x y → Reach W H sim diag x0 y0 x y
  todo : ∀ x y, T x y → M x y
  closed : ∀ x y, M x y → T x y ∨ Closed W H sim diag M x y
section
variable {W H : Int} {sim : Int → Int → Prop} {diag : Bool} {x0 y0 : Int} {M T : Int → Int → Prop}
theorem AInv.done (h : AInv W H sim diag x0 y0 M T) (hT : ∀ x y, ¬ T x y) (x y : Int) : M x y ↔ Reach W H sim diag x0 y0 x y := by
  refine ⟨h.reach x y, fun hr => ?_⟩
  induction hr with
  | base => exact h.start
  | step _ ho hi hs ih =>
    rcases h.closed _ _ ih with ht | hc
    · exact absurd ht (hT _ _)
    · exact hc _ _ ho hi hs
structure Ext (W H : Int) (sim : Int → Int → Prop) (diag : Bool) (px py : Int) (M T M' T' : Int → Int → Prop) : Prop where
  keepM : ∀ x y, M x y → M' x y
  keepT : ∀ x y, T x y → T' x y
  new : ∀ u v, M' u v → M u v ∨ (T' u v ∧ Off diag (u - px) (v - py) ∧ Ins W H u v ∧ sim u v)
  todo : ∀ u v, T' u v → T u v ∨ M' u v
theorem Ext.refl (px py : Int) : Ext W H sim diag px py M T M T := ⟨fun _ _ h => h, fun _ _ h => h, fun _ _ h => .inl h, fun _ _ h => .inl h⟩
theorem Ext.trans {px py : Int} {M' T' M'' T'' : Int → Int → Prop} (h : Ext W H sim diag px py M T M' T') (k : Ext W H sim diag px py M' T' M'' T'') : Ext W H sim diag px py M T M'' T'' := by
  refine ⟨fun x y hm => k.keepM _ _ (h.keepM _ _ hm), fun x y ht => k.keepT _ _ (h.keepT _ _ ht), fun u v hm => ?_, fun u v ht => ?_⟩
  · rcases k.new _ _ hm with hm | hm
    · rcases h.new _ _ hm with hm | ⟨ht, hr⟩
      · exact .inl hm
      · exact .inr ⟨k.keepT _ _ ht, hr⟩
    · exact .inr hm
  · rcases k.todo _ _ ht with ht | hm
    · rcases h.todo _ _ ht with ht | hm
      · exact .inl ht
      · exact .inr (k.keepM _ _ hm)
    · exact .inr hm
theorem AInv.next {px py : Int} {T0 M' T' : Int → Int → Prop} (h : AInv W H sim diag x0 y0 M T0) (hp : T0 px py) (hT : ∀ x y, T0 x y → T x y ∨ (x = px ∧ y = py)) (hT' : ∀ x y, T x y → T0 x y) (e : Ext W H sim diag px py M T M' T') (c : Closed W H sim diag M' px py) : AInv W H sim diag x0 y0 M' T' := by
  refine ⟨e.keepM _ _ h.start, fun x y hm => ?_, fun x y ht => ?_, fun x y hm => ?_⟩
  · rcases e.new _ _ hm with hm | ⟨_, ho, hi, hs⟩
    · exact h.reach _ _ hm
    · exact .step (h.reach _ _ (h.todo _ _ hp)) ho hi hs
  · rcases e.todo _ _ ht with ht | hm
    · exact e.keepM _ _ (h.todo _ _ (hT' _ _ ht))
    · exact hm
  · rcases e.new _ _ hm with hm | ⟨ht, _⟩
    · rcases h.closed _ _ hm with ht | hc
      · rcases hT _ _ ht with ht | ⟨rfl, rfl⟩
        · exact .inl (e.keepT _ _ ht)
        · exact .inr c
      · exact .inr fun u v ho hi hs => e.keepM _ _ (hc u v ho hi hs)
    · exact .inl ht
end
theorem Reach.ins {W H : Int} {sim : Int → Int → Prop} {diag : Bool} {x0 y0 x y : Int} (h0 : Ins W H x0 y0) (h : Reach W H sim diag x0 y0 x y) : Ins W H x y := by
  cases h with
  | base => exact h0
  | step _ _ hi _ => exact hi
theorem Reach.sim_ {W H : Int} {sim : Int → Int → Prop} {diag : Bool} {x0 y0 x y : Int} (h0 : sim x0 y0) (h : Reach W H sim diag x0 y0 x y) : sim x y := by
  cases h with
  | base => exact h0
  | step _ _ _ hs => exact hs
theorem Reach.mono {W H : Int} {sim sim' : Int → Int → Prop} {diag diag' : Bool} {x0 y0 x y : Int} (hs : ∀ u v, Ins W H u v → sim u v → sim' u v) (hd : diag = true → diag' = true) (h : Reach W H sim diag x0 y0 x y) : Reach W H sim' diag' x0 y0 x y := by
  induction h with
  | base => exact .base
  | step _ ho hi hm ih => exact .step ih ⟨ho.1, ho.2.1, ho.2.2.1, ho.2.2.2.1, ho.2.2.2.2.imp hd id⟩ hi (hs _ _ hi hm)
theorem Reach.trans {W H : Int} {sim : Int → Int → Prop} {diag : Bool} {x0 y0 x1 y1 x y : Int} (h : Reach W H sim diag x0 y0 x1 y1) (k : Reach W H sim diag x1 y1 x y) : Reach W H sim diag x0 y0 x y := by
  induction k with
  | base => exact h
  | step _ ho hi hm ih => exact .step ih ho hi hm
theorem Off.turn {diag : Bool} {dx dy : Int} (h : Off diag dx dy) : Off diag (-dx) (-dy) := by
  obtain ⟨h1, h2, h3, h4, h5⟩ := h
  refine ⟨by omega, by omega, by omega, by omega, ?_⟩
  rcases h5 with h5 | h5 | h5
  · exact .inl h5
  · exact .inr (.inl (by omega))
  · exact .inr (.inr (by omega))
theorem Reach.back {W H : Int} {sim : Int → Int → Prop} {diag : Bool} {x0 y0 x y : Int} (hi : Ins W H x0 y0) (h0 : sim x0 y0) (h : Reach W H sim diag x0 y0 x y) : Reach W H sim diag x y x0 y0 := by
  induction h with
  | base => exact .base
  | @step x y u v h ho hi' hs ih =>
    refine Reach.trans (x1 := x) (y1 := y) (.step .base ?_ (h.ins hi) (h.sim_ h0)) ih
    have := ho.turn
    rw [show x - u = -(u - x) by omega, show y - v = -(v - y) by omega]
    exact this
theorem Reach.flip {W H : Int} {sim sim' : Int → Int → Prop} {diag : Bool} {x0 y0 x y : Int} (hs : ∀ u v, Ins W H u v → sim u v → sim' v u) (h : Reach W H sim diag x0 y0 x y) : Reach H W sim' diag y0 x0 y x := by
  induction h with
  | base => exact .base
  | step _ ho hi hm ih => exact .step ih ⟨ho.2.2.1, ho.2.2.2.1, ho.1, ho.2.1, ho.2.2.2.2.imp id Or.symm⟩ ⟨hi.2.2.1, hi.2.2.2, hi.1, hi.2.1⟩ (hs _ _ hi hm)

/-! ### Places and numbers -/
theorem place_div {W x y : Int} (h : 0 ≤ x) (h' : x < W) : (y * W + x) / W = y := by
  rw [Int.add_comm, Int.add_mul_ediv_right _ _ (by omega), Int.ediv_eq_zero_of_lt h h', Int.zero_add]
theorem place_mod {W x y : Int} (h : 0 ≤ x) (h' : x < W) : (y * W + x) % W = x := by
  rw [Int.add_comm, Int.add_mul_emod_self_right, Int.emod_eq_of_lt h h']
theorem place_in {W H x y : Int} (h : Ins W H x y) : 0 ≤ y * W + x ∧ y * W + x < W * H := by
  obtain ⟨h1, h2, h3, h4⟩ := h
  have a := Int.mul_nonneg h3 (show 0 ≤ W by omega)
  have b := Int.mul_le_mul_of_nonneg_right (show y ≤ H - 1 by omega) (show 0 ≤ W by omega)
  rw [Int.sub_mul, Int.mul_comm H W] at b
  omega
theorem place_inj {W H x y u v : Int} (h : Ins W H x y) (h' : Ins W H u v) (e : y * W + x = v * W + u) : x = u ∧ y = v := by
  have a := place_mod (y := y) h.1 h.2.1
  have b := place_div (y := y) h.1 h.2.1
  rw [e, place_mod h'.1 h'.2.1] at a
  rw [e, place_div h'.1 h'.2.1] at b
  exact ⟨a.symm, b.symm⟩
theorem place_of {W H i : Int} (hW : 0 < W) (h : 0 ≤ i) (h' : i < W * H) : Ins W H (i % W) (i / W) ∧ i / W * W + i % W = i := by
  refine ⟨⟨Int.emod_nonneg _ (by omega), Int.emod_lt_of_pos _ hW, Int.ediv_nonneg h (by omega), Int.ediv_lt_of_lt_mul hW (by rw [Int.mul_comm]; exact h')⟩, ?_⟩
  rw [Int.mul_comm]
  exact Int.mul_ediv_add_emod i W
end Go.Proofs.Ytmmncannibnklaa.Pure
