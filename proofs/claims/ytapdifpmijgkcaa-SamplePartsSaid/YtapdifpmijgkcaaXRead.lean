/- Arguments that can be read as data are values of the printed kinds: whole numbers, bools, structs and slices of such. They hold of any program and any world. -/
import Derived.Test.YtapdifpmijgkcaaWMore
import Derived.Deep.Slices
import Derived.Deep.Strs
import Derived.Deep.Fields
import Derived.Lib.SmallJoins
import Derived.ChangeSame
import Derived.SizedLaws
namespace Go.Proofs.YtapdifpmijgkcaaW.PrintWords
open Go.ChangeShapes Go.WideShapes Go.Deep
section
variable {P : Program}
/-- Whatever reads as data of type t is a value of kind d, and a good one. -/
def Reads (P : Program) (t : TypeId) {α : Type} (d : Kd α) (good : α → Prop) : Prop :=
  ∀ {H : Type} {enc : TypeId × Value → H} {w : World} {base : Nat} {spare : Nat → Bool} {held : Bool} {fuel : Nat} {cs : List Value} {x : DataW H × List MemPlace},
    DataW.trod enc P w base spare held fuel t cs = some x → ∃ a, d.K w a cs ∧ good a
theorem Reads.int {t : TypeId} {k : IntKind} (ht : P.underlying t = some (.int k)) : Reads P t (Kd.int k) (fun n => (Lit.int k n).wf = true) := by
  intro H enc w base spare held fuel cs x h
  obtain ⟨n, hc, _, hw⟩ := DataW.trod_int ht h
  exact ⟨n, hc, hw⟩
theorem Reads.bool {t : TypeId} (ht : P.underlying t = some .bool) : Reads P t Kd.bool (fun _ => True) := by
  intro H enc w base spare held fuel cs x h
  obtain ⟨b, hc, _⟩ := DataW.trod_bool ht h
  exact ⟨b, hc, trivial⟩
theorem Reads.slice {t e : TypeId} {α : Type} {d : Kd α} {good : α → Prop} (ht : P.underlying t = some (.slice e)) (hc : P.cellsOf e = d.sz) (he : Reads P e d good) (q : Nat) :
    Reads P t (Kd.slice q d) (fun l => l.length ≤ maxLen ∧ ∀ x ∈ l, good x) := by
  intro H enc w base spare held fuel cs x h
  rcases open_slice ht h with ⟨rfl, _⟩ | ⟨a, len, cap, m, n, D, Pl, rfl, _, hl, hm, hmm, _, hi⟩
  · exact ⟨[], ⟨none, 0, rfl, Nat.le_refl _, Kd.C_nil _ _⟩, by simp, by simp⟩
  · have hle : len ≤ m := by rw [hmm]; split <;> omega
    have hel : ∀ i : Fin len, ∃ p : α, good p ∧ ∃ c : List Value, c.length = d.sz ∧ d.K w p c ∧ ∀ j u, c[j]? = some u → w.cell? (a.add (i.1 * d.sz + j)) = some u := by
      intro i
      obtain ⟨cs', h1, h2⟩ := hi i.1 (by omega)
      obtain ⟨p, hk, hg⟩ := he h2
      refine ⟨p, hg, cs', d.K_len hk, hk, fun j u hj => ?_⟩
      obtain ⟨_, hcl, hat⟩ := World.cells?_some h1
      rw [hc] at hcl hat
      have hj' : j < cs'.length := (List.getElem?_eq_some_iff.1 hj).1
      have := hat j (by omega)
      rw [← Go.Deep.add_add, this, hj]
    refine ⟨List.ofFn fun i => Classical.choose (hel i), ⟨some a, cap, by simp, by simpa using hl, ?_⟩, by simp; omega, ?_⟩
    · refine ⟨rfl, ?_, fun _ => ⟨a, rfl, fun j p hj => ?_⟩⟩
      · simp; unfold maxLen at hm; omega
      · obtain ⟨hjl, hje⟩ := List.getElem?_eq_some_iff.1 hj
        have hjl' : j < len := by simpa using hjl
        have hs := Classical.choose_spec (hel ⟨j, hjl'⟩)
        have hp : p = Classical.choose (hel ⟨j, hjl'⟩) := by rw [← hje]; simp
        rw [hp]
        exact hs.2
    · intro y hy
      obtain ⟨i, rfl⟩ := (List.mem_ofFn).1 hy
      exact (Classical.choose_spec (hel i)).1
theorem Reads.iso {t : TypeId} {α β : Type} {d : Kd α} {f : β → α} (g : α → β) (hg : ∀ a, f (g a) = a) {good : α → Prop} (h : Reads P t d good) : Reads P t (Kd.iso d f) (fun b => good (f b)) := by
  intro H enc w base spare held fuel cs x hx
  obtain ⟨a, hk, hgd⟩ := h hx
  exact ⟨g a, by show d.K w (f (g a)) cs; rw [hg]; exact hk, by show good (f (g a)); rw [hg]; exact hgd⟩
theorem one_of_len {α : Type} {l : List α} (h : l.length = 1) : ∃ a, l = [a] := by
  match l, h with
  | [a], _ => exact ⟨a, rfl⟩
/-- Two fields. -/
theorem Reads.struct2 {t : TypeId} {f0 f1 : Field} {α β : Type} {d0 : Kd α} {d1 : Kd β} {g0 : α → Prop} {g1 : β → Prop} (ht : P.underlying t = some (.struct #[f0, f1]))
    (hn : P.cellsOf t = d0.sz + d1.sz) (o0 : f0.offset = 0) (o1 : f1.offset = d0.sz) (c0 : P.cellsOf f0.type = d0.sz) (c1 : P.cellsOf f1.type = d1.sz)
    (h0 : Reads P f0.type d0 g0) (h1 : Reads P f1.type d1 g1) : Reads P t (Kd.pair d0 d1) (fun x => g0 x.1 ∧ g1 x.2) := by
  intro H enc w base spare held fuel cs x h
  obtain ⟨xs, n, _, rfl, hl, hlen, hf⟩ := DataW.trod_struct ht h
  match xs, hlen with
  | [y0, y1], _ =>
    have e0 := hf 0 f0 rfl
    have e1 := hf 1 f1 rfl
    obtain ⟨a, ka, ga⟩ := h0 e0
    obtain ⟨b, kb, gb⟩ := h1 e1
    refine ⟨(a, b), ⟨_, _, ?_, ka, kb⟩, ga, gb⟩
    rw [o0, o1, c0, c1, List.drop_zero, List.take_of_length_le (l := cs.drop d0.sz) (by rw [List.length_drop]; omega), List.take_append_drop]
/-- A field, and those behind it: for structs of more fields, told by their cells. -/
theorem Reads.struct3 {t : TypeId} {f0 f1 f2 : Field} {α β γ : Type} {d0 : Kd α} {d1 : Kd β} {d2 : Kd γ} {g0 : α → Prop} {g1 : β → Prop} {g2 : γ → Prop} (ht : P.underlying t = some (.struct #[f0, f1, f2]))
    (hn : P.cellsOf t = d0.sz + d1.sz + d2.sz) (o0 : f0.offset = 0) (o1 : f1.offset = d0.sz) (o2 : f2.offset = d0.sz + d1.sz) (c0 : P.cellsOf f0.type = d0.sz) (c1 : P.cellsOf f1.type = d1.sz) (c2 : P.cellsOf f2.type = d2.sz)
    (h0 : Reads P f0.type d0 g0) (h1 : Reads P f1.type d1 g1) (h2 : Reads P f2.type d2 g2) : Reads P t (Kd.pair d0 (Kd.pair d1 d2)) (fun x => g0 x.1 ∧ g1 x.2.1 ∧ g2 x.2.2) := by
  intro H enc w base spare held fuel cs x h
  obtain ⟨xs, n, _, rfl, hl, hlen, hf⟩ := DataW.trod_struct ht h
  match xs, hlen with
  | [y0, y1, y2], _ =>
    have e0 := hf 0 f0 rfl
    have e1 := hf 1 f1 rfl
    have e2 := hf 2 f2 rfl
    obtain ⟨a, ka, ga⟩ := h0 e0
    obtain ⟨b, kb, gb⟩ := h1 e1
    obtain ⟨c, kc, gc⟩ := h2 e2
    refine ⟨(a, b, c), ⟨_, _, ?_, ka, ⟨_, _, rfl, kb, kc⟩⟩, ga, gb, gc⟩
    rw [o0, o1, o2, c0, c1, c2, List.drop_zero, List.take_of_length_le (l := cs.drop (d0.sz + d1.sz)) (by rw [List.length_drop]; omega), ← List.drop_drop, List.take_append_drop, List.take_append_drop]
theorem Reads.struct4 {t : TypeId} {f0 f1 f2 f3 : Field} {α β γ δ : Type} {d0 : Kd α} {d1 : Kd β} {d2 : Kd γ} {d3 : Kd δ} {g0 : α → Prop} {g1 : β → Prop} {g2 : γ → Prop} {g3 : δ → Prop} (ht : P.underlying t = some (.struct #[f0, f1, f2, f3]))
    (hn : P.cellsOf t = d0.sz + d1.sz + d2.sz + d3.sz) (o0 : f0.offset = 0) (o1 : f1.offset = d0.sz) (o2 : f2.offset = d0.sz + d1.sz) (o3 : f3.offset = d0.sz + d1.sz + d2.sz) (c0 : P.cellsOf f0.type = d0.sz) (c1 : P.cellsOf f1.type = d1.sz) (c2 : P.cellsOf f2.type = d2.sz) (c3 : P.cellsOf f3.type = d3.sz)
    (h0 : Reads P f0.type d0 g0) (h1 : Reads P f1.type d1 g1) (h2 : Reads P f2.type d2 g2) (h3 : Reads P f3.type d3 g3) : Reads P t (Kd.pair d0 (Kd.pair d1 (Kd.pair d2 d3))) (fun x => g0 x.1 ∧ g1 x.2.1 ∧ g2 x.2.2.1 ∧ g3 x.2.2.2) := by
  intro H enc w base spare held fuel cs x h
  obtain ⟨xs, n, _, rfl, hl, hlen, hf⟩ := DataW.trod_struct ht h
  match xs, hlen with
  | [y0, y1, y2, y3], _ =>
    have e0 := hf 0 f0 rfl
    have e1 := hf 1 f1 rfl
    have e2 := hf 2 f2 rfl
    have e3 := hf 3 f3 rfl
    obtain ⟨a, ka, ga⟩ := h0 e0
    obtain ⟨b, kb, gb⟩ := h1 e1
    obtain ⟨c, kc, gc⟩ := h2 e2
    obtain ⟨e, ke, ge⟩ := h3 e3
    refine ⟨(a, b, c, e), ⟨_, _, ?_, ka, ⟨_, _, rfl, kb, ⟨_, _, rfl, kc, ke⟩⟩⟩, ga, gb, gc, ge⟩
    have q1 : cs.drop (d0.sz + d1.sz) = (cs.drop d0.sz).drop d1.sz := by rw [List.drop_drop]
    have q2 : cs.drop (d0.sz + d1.sz + d2.sz) = ((cs.drop d0.sz).drop d1.sz).drop d2.sz := by rw [List.drop_drop, List.drop_drop, Nat.add_assoc]
    rw [o0, o1, o2, o3, c0, c1, c2, c3, List.drop_zero, List.take_of_length_le (l := cs.drop (d0.sz + d1.sz + d2.sz)) (by rw [List.length_drop]; omega), q2, q1, List.take_append_drop, List.take_append_drop, List.take_append_drop]
theorem Reads.struct6 {t : TypeId} {f0 f1 f2 f3 f4 f5 : Field} {α β γ δ ε ζ : Type} {d0 : Kd α} {d1 : Kd β} {d2 : Kd γ} {d3 : Kd δ} {d4 : Kd ε} {d5 : Kd ζ} {g0 : α → Prop} {g1 : β → Prop} {g2 : γ → Prop} {g3 : δ → Prop} {g4 : ε → Prop} {g5 : ζ → Prop} (ht : P.underlying t = some (.struct #[f0, f1, f2, f3, f4, f5]))
    (hn : P.cellsOf t = d0.sz + d1.sz + d2.sz + d3.sz + d4.sz + d5.sz) (o0 : f0.offset = 0) (o1 : f1.offset = d0.sz) (o2 : f2.offset = d0.sz + d1.sz) (o3 : f3.offset = d0.sz + d1.sz + d2.sz) (o4 : f4.offset = d0.sz + d1.sz + d2.sz + d3.sz) (o5 : f5.offset = d0.sz + d1.sz + d2.sz + d3.sz + d4.sz)
    (c0 : P.cellsOf f0.type = d0.sz) (c1 : P.cellsOf f1.type = d1.sz) (c2 : P.cellsOf f2.type = d2.sz) (c3 : P.cellsOf f3.type = d3.sz) (c4 : P.cellsOf f4.type = d4.sz) (c5 : P.cellsOf f5.type = d5.sz)
    (h0 : Reads P f0.type d0 g0) (h1 : Reads P f1.type d1 g1) (h2 : Reads P f2.type d2 g2) (h3 : Reads P f3.type d3 g3) (h4 : Reads P f4.type d4 g4) (h5 : Reads P f5.type d5 g5) :
    Reads P t (Kd.pair d0 (Kd.pair d1 (Kd.pair d2 (Kd.pair d3 (Kd.pair d4 d5))))) (fun x => g0 x.1 ∧ g1 x.2.1 ∧ g2 x.2.2.1 ∧ g3 x.2.2.2.1 ∧ g4 x.2.2.2.2.1 ∧ g5 x.2.2.2.2.2) := by
  intro H enc w base spare held fuel cs x h
  obtain ⟨xs, n, _, rfl, hl, hlen, hf⟩ := DataW.trod_struct ht h
  match xs, hlen with
  | [y0, y1, y2, y3, y4, y5], _ =>
    obtain ⟨a, ka, ga⟩ := h0 (hf 0 f0 rfl)
    obtain ⟨b, kb, gb⟩ := h1 (hf 1 f1 rfl)
    obtain ⟨c, kc, gc⟩ := h2 (hf 2 f2 rfl)
    obtain ⟨e, ke, ge⟩ := h3 (hf 3 f3 rfl)
    obtain ⟨f, kf, gf⟩ := h4 (hf 4 f4 rfl)
    obtain ⟨g, kg, gg⟩ := h5 (hf 5 f5 rfl)
    refine ⟨(a, b, c, e, f, g), ⟨_, _, ?_, ka, ⟨_, _, rfl, kb, ⟨_, _, rfl, kc, ⟨_, _, rfl, ke, ⟨_, _, rfl, kf, kg⟩⟩⟩⟩⟩, ga, gb, gc, ge, gf, gg⟩
    have q1 : cs.drop (d0.sz + d1.sz) = (cs.drop d0.sz).drop d1.sz := by rw [List.drop_drop]
    have q2 : cs.drop (d0.sz + d1.sz + d2.sz) = ((cs.drop d0.sz).drop d1.sz).drop d2.sz := by rw [List.drop_drop, List.drop_drop, Nat.add_assoc]
    have q3 : cs.drop (d0.sz + d1.sz + d2.sz + d3.sz) = (((cs.drop d0.sz).drop d1.sz).drop d2.sz).drop d3.sz := by rw [List.drop_drop, List.drop_drop, List.drop_drop]; congr 1; omega
    have q4 : cs.drop (d0.sz + d1.sz + d2.sz + d3.sz + d4.sz) = ((((cs.drop d0.sz).drop d1.sz).drop d2.sz).drop d3.sz).drop d4.sz := by rw [List.drop_drop, List.drop_drop, List.drop_drop, List.drop_drop]; congr 1; omega
    rw [o0, o1, o2, o3, o4, o5, c0, c1, c2, c3, c4, c5, List.drop_zero, List.take_of_length_le (l := cs.drop (d0.sz + d1.sz + d2.sz + d3.sz + d4.sz)) (by rw [List.length_drop]; omega), q4, q3, q2, q1, List.take_append_drop, List.take_append_drop, List.take_append_drop, List.take_append_drop, List.take_append_drop]
/-- An argument that is a struct. -/
theorem Reads.agg {t : TypeId} {fs : Array Field} {α : Type} {d : Kd α} {good : α → Prop} (hr : Reads P t d good) (hs : P.underlying t = some (.struct fs)) {H : Type} {enc : TypeId × Value → H} {w w' : World} {r : Reach} {b0 base : Nat} {spare : Nat → Bool} {held : Bool} {v : Value} {x : DataW H} {p : List MemPlace}
    (hv : Value.okWide P w' r b0 t v) (h : DataW.Trod enc P w base spare held t v x p) : ∃ a l, d.K w a l ∧ good a ∧ v = .agg l.toArray := by
  obtain ⟨cs, rfl, _⟩ := okWide_struct hs hv
  obtain ⟨m, hm⟩ := h
  obtain ⟨a, hk, hg⟩ := hr hm
  exact ⟨a, _, hk, hg, by simp [Value.cells]⟩
/-- An argument that is a slice. -/
theorem Reads.slc {t e : TypeId} {α : Type} {q : Nat} {d : Kd α} {good : List α → Prop} (hr : Reads P t (Kd.slice q d) good) (hs : P.underlying t = some (.slice e)) {H : Type} {enc : TypeId × Value → H} {w w' : World} {r : Reach} {b0 base : Nat} {spare : Nat → Bool} {held : Bool} {v : Value} {x : DataW H} {p : List MemPlace}
    (hv : Value.okWide P w' r b0 t v) (h : DataW.Trod enc P w base spare held t v x p) : ∃ l A c, d.C w A l.length l ∧ l.length ≤ c ∧ good l ∧ v = .slice A l.length c := by
  obtain ⟨A, n, c, rfl⟩ := okWide_slice hs hv
  obtain ⟨m, hm⟩ := h
  obtain ⟨l, ⟨A', c', hcs, hle, hC⟩, hg⟩ := hr hm
  simp [Value.cells] at hcs
  obtain ⟨rfl, rfl, rfl⟩ := hcs
  exact ⟨l, _, _, hC, hle, hg, rfl⟩
end
end Go.Proofs.YtapdifpmijgkcaaW.PrintWords
