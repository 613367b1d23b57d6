/- An argument that is a struct of three fields whose third is a slice: the slice is no longer than the row's own weight allows. It holds of any program and any world. -/
import Derived.Test.YtjepbimgddgijaaXRead
import Derived.SizedLaws
import Derived.Deep.Slices
namespace Go.Proofs.YtjepbimgddgijaaW.PrintWords
open Go.ChangeShapes Go.WideShapes Go.Deep
theorem sized_field {H : Type} {enc : TypeId × Value → H} {P : Program} {W : World} {base : Nat} {spare : Nat → Bool} {held : Bool} {t e : TypeId} {f0 f1 f2 : Field} {c0 c1 : Value} {a : Option Addr} {len cap : Nat} {d : DataW H} {ps : List MemPlace} {ts : List TypeId} {ds : List (DataW H)} {j : Nat}
    (hsz : (DataW.weightsEach P ts ds).all (· ≤ reachBytes) = true) (htj : ts[j]? = some t) (hdj : ds[j]? = some d)
    (ht : P.underlying t = some (.struct #[f0, f1, f2])) (o2 : f2.offset = 2) (c2 : P.cellsOf f2.type = 1) (hu : P.underlying f2.type = some (.slice e)) {B : Nat} (hB : P.bytesOf e = B)
    (h : DataW.Trod enc P W base spare held t (.agg #[c0, c1, .slice a len cap]) d ps) : len * B ≤ 140737488351232 := by
  obtain ⟨fuel, hf⟩ := h
  obtain ⟨xs, n, _, hx, _, hlen, hi⟩ := DataW.trod_struct ht hf
  match xs, hlen with
  | [y0, y1, y2], _ =>
    have e2 := hi 2 f2 rfl
    rw [o2, c2] at e2
    have e2' : DataW.trod enc P W base spare held n f2.type [.slice a len cap] = some y2 := by simpa [Value.cells] using e2
    rcases open_slice hu e2' with ⟨hc, _⟩ | ⟨x, l, c, m, n', D, Pl, hc, _, hl, hm, hmm, hy, _⟩
    · simp only [List.cons.injEq, Value.slice.injEq, and_true] at hc
      obtain ⟨_, rfl, _⟩ := hc
      simp
    · simp only [List.cons.injEq, Value.slice.injEq, and_true] at hc
      obtain ⟨_, rfl, _⟩ := hc
      have hd : d = .agg [y0.1, y1.1, y2.1] := (Prod.mk.inj hx).1
      have hy1 := congrArg Prod.fst hy
      simp only at hy1
      rw [hy1] at hd
      subst hd
      have key := List.all_eq_true.1 hsz _ (DataW.weights_mem_each htj hdj ((((List.range len).map D).length + (((List.range (m - len)).map fun j => D (len + j))).length) * P.bytesOf e) (by simp [DataW.weights, DataW.weightsEach, ht, hu]))
      have key' : (len + (m - len)) * P.bytesOf e ≤ 140737488351232 := by simpa [reachBytes] using key
      rw [hB] at key'
      exact Nat.le_trans (Nat.mul_le_mul_right _ (Nat.le_add_right _ _)) key'
end Go.Proofs.YtjepbimgddgijaaW.PrintWords
