/- Calls of function values: three lemmas on a call whose callee is a closure that stands in a slot. They hold of any program and any world. -/
import Derived.Test.YtapdifpmijgkcaaWMore
import Derived.Test.YtapdifpmijgkcaaWAt
namespace Go.Proofs.YtapdifpmijgkcaaW.PrintLast
open Go.RowKit Go.Proofs.YtapdifpmijgkcaaW.PrintWords
section
variable {P : Program} {ops : Array Oper} {Q : Exit → Act → World → Prop}
/-- A call of a function value, in a region that draws its order. -/
theorem goesT_ {oi : Oper} {N : Option Tmp} {a : Act} {w : World} {K : Act → World → Prop} {t : Tmp} {f : FuncId} {fn : Func} {as : Array Operand} {ts : Array TypeId} (hf : P.funcs[f]? = some fn) (hname : (fn.name == "runtime.NumGoroutine") = false) (hb : fn.body.isSome = true) (caps args : Array Value)
    (hw : Region.wanted oi (yielded ops a.tmps) = true) (hN : oi.dst = N) (hop : oi.op = .call { callee := .value (.tmp t), args := as, argTypes := ts }) (hv : a.eval (.tmp t) = .func (.func f) #[] caps) (hargs : as.map a.eval ++ caps = args)
    (h : Calls P f args w fun e w' => ∃ v, e = .returned v ∧ K (a.put N v) w') : if Region.wanted oi (yielded ops a.tmps) = true then Oper.wp P oi a w K Q else K (a.put N undef) w := by
  refine call_ f args hw hN ?_ h
  have he := enters_ hf hname hb args w
  unfold execOp
  simp [hop, resolve, hv, Deferred.ofValue, invoke, hargs, he]
/-- The same in a plain region. -/
theorem goesLT_ {rest : List Oper} {oi : Oper} {a : Act} {w : World} (N : Option Tmp) (hd : oi.dst = N) (hg : oi.guard = none) {t : Tmp} {f : FuncId} {fn : Func} {as : Array Operand} {ts : Array TypeId} (hf : P.funcs[f]? = some fn) (hname : (fn.name == "runtime.NumGoroutine") = false) (hb : fn.body.isSome = true) (caps args : Array Value)
    (hop : oi.op = .call { callee := .value (.tmp t), args := as, argTypes := ts }) (hv : a.eval (.tmp t) = .func (.func f) #[] caps) (hargs : as.map a.eval ++ caps = args)
    (h : Calls P f args w fun e w' => ∃ v, e = .returned v ∧ wpList P ops Q rest (a.put N v) w') : wpList P ops Q (oi :: rest) a w := by
  refine wpList_plain hg fun K hK => ?_
  have he := enters_ hf hname hb args w
  have hrun : (execOp a.eval oi).run P w = .ok (.enter f args) w := by
    unfold execOp
    simp [hop, resolve, hv, Deferred.ofValue, invoke, hargs, he]
  unfold Oper.wp
  rw [hrun, Oper.upon_enter]
  refine h.mono fun e w'' hh => ?_
  obtain ⟨v, rfl, hk⟩ := hh
  subst hd
  exact hK _ _ hk
/-- The operation calls the function value in this slot. -/
theorem gate_calleeT {o : Oper} {rest : List Oper} {a : Act} {W : World} {t : Tmp} {as : Array Operand} {ts : Array TypeId} (_ho : o.op = .call { callee := .value (.tmp t), args := as, argTypes := ts }) (h : wpList P ops Q (o :: rest) a W) : wpList P ops Q (o :: rest) a W := h
end
end Go.Proofs.YtapdifpmijgkcaaW.PrintLast
namespace Go.Proofs.YtapdifpmijgkcaaW.PrintWords.Kd
open Go.RowKit
section
variable {α : Type} {P : Program} {ops : Array Oper} {o : Oper} {rest : List Oper} {a : Act} {Q : Exit → Act → World → Prop}
/-- make([]T, 0, n): an empty row with room. -/
theorem R_make0 (d : Kd α) {w0 W : World} (base e : Nat) (hgd : o.guard = none) {N : Tmp} (_hd : o.dst = some N) (t : TypeId) (x y : Operand) (ho : o.op = .makeSlice t x y) (n : Int) (hx : a.eval x = .int .i64 0) (hy : a.eval y = .int .i64 n)
    (ht : P.underlying t = some (.slice e)) (z : Value) (bytes : Nat) (hinfo : (P.info? e).map (fun i => (i.zero, i.size, i.bytes)) = some (some z, d.sz, bytes)) (_hz : z.cells.size = d.sz) (_hs0 : 0 < d.sz) (hb0 : 0 < bytes)
    (z0 : α) {ok okp : Nat → Prop} (_hzero : d.M W base okp z0 z.cells.toList) (_hok : ∀ k, okp k → ok k) (hfresh : ok W.heap.size) (h0 : 0 ≤ n) (hl : n.toNat * bytes ≤ 281474976710656) (HB : Below base w0 W) (hbase : base ≤ W.heap.size)
    (h : ∀ v1 w1, d.R e w1 base ok v1 [] → Below base w0 w1 → W.grownBy w1 none → (∃ b, v1.ownBlock = some b ∧ W.heap.size ≤ b) → wpList P ops Q rest (a.put o.dst v1) w1) : wpList P ops Q (o :: rest) a W := by
  obtain ⟨m, rfl⟩ := Int.eq_ofNat_of_zero_le h0
  simp only [Int.toNat_natCast] at hl
  obtain ⟨i0, hi, hzz⟩ := Option.map_eq_some_iff.1 hinfo
  simp only [Prod.mk.injEq] at hzz
  obtain ⟨hz0, hz1, hz2⟩ := hzz
  have hm : m ≤ 281474976710656 := Nat.le_trans (Nat.le_mul_of_pos_right _ hb0) hl
  have hr := run_make (P := P) (w := W) t e i0 z ht hi hz0 .i64 .i64 0 (m : Int) (by omega) (by omega)
    (by
      have h3 : ((i0.bytes * m : Nat) : Int) ≤ 281474976710656 := by rw [hz2, Nat.mul_comm]; omega
      rwa [Int.natCast_mul] at h3) (by omega)
  simp only [Int.toNat_natCast, Int.toNat_zero] at hr
  have hrun : (execOp a.eval o).run P W = .ok (.value (.slice (some ⟨W.heap.size, 0, none⟩) 0 m)) (W.alloc (.cells (madeCells z.cells (m * i0.size)) e)) := by
    simp [execOp, ho, hx, hy, hr]
  refine event_run hgd hrun (h _ _ ⟨fun k hk => ?_, [], ⟨by simp, .inr ⟨W.heap.size, m, _, rfl, hbase, heap_alloc_new W _, Nat.zero_le _, ?_, ?_, by simp⟩⟩, Reps.none _ _⟩ (HB.alloc hbase _) (World.grownBy_alloc W _ none) ⟨W.heap.size, by simp [Value.ownBlock], Nat.le_refl _⟩)
  · have : W.heap.size = k := by simpa [Value.ownBlock] using hk
    subst this
    exact hfresh
  · unfold maxLen; omega
  · rw [size_madeCells, hz1]
/-- The same, as a step of a region that draws its order. -/
theorem R_make0_step (d : Kd α) {w0 W : World} (base e : Nat) {Kc : Act → World → Prop} (hw : Region.wanted o (yielded ops a.tmps) = true) {N : Tmp} (_hd : o.dst = some N) (t : TypeId) (x y : Operand) (ho : o.op = .makeSlice t x y) (n : Int) (hx : a.eval x = .int .i64 0) (hy : a.eval y = .int .i64 n)
    (ht : P.underlying t = some (.slice e)) (z : Value) (bytes : Nat) (hinfo : (P.info? e).map (fun i => (i.zero, i.size, i.bytes)) = some (some z, d.sz, bytes)) (_hz : z.cells.size = d.sz) (_hs0 : 0 < d.sz) (hb0 : 0 < bytes)
    (z0 : α) {ok okp : Nat → Prop} (_hzero : d.M W base okp z0 z.cells.toList) (_hok : ∀ k, okp k → ok k) (hfresh : ok W.heap.size) (h0 : 0 ≤ n) (hl : n.toNat * bytes ≤ 281474976710656) (HB : Below base w0 W) (hbase : base ≤ W.heap.size)
    (h : ∀ v1 w1, d.R e w1 base ok v1 [] → Below base w0 w1 → W.grownBy w1 none → (∃ b, v1.ownBlock = some b ∧ W.heap.size ≤ b) → Kc (a.put o.dst v1) w1) : if Region.wanted o (yielded ops a.tmps) = true then Oper.wp P o a W Kc Q else Kc (a.put o.dst undef) W := by
  obtain ⟨m, rfl⟩ := Int.eq_ofNat_of_zero_le h0
  simp only [Int.toNat_natCast] at hl
  obtain ⟨i0, hi, hzz⟩ := Option.map_eq_some_iff.1 hinfo
  simp only [Prod.mk.injEq] at hzz
  obtain ⟨hz0, hz1, hz2⟩ := hzz
  have hm : m ≤ 281474976710656 := Nat.le_trans (Nat.le_mul_of_pos_right _ hb0) hl
  have hr := run_make (P := P) (w := W) t e i0 z ht hi hz0 .i64 .i64 0 (m : Int) (by omega) (by omega)
    (by
      have h3 : ((i0.bytes * m : Nat) : Int) ≤ 281474976710656 := by rw [hz2, Nat.mul_comm]; omega
      rwa [Int.natCast_mul] at h3) (by omega)
  simp only [Int.toNat_natCast, Int.toNat_zero] at hr
  have hrun : (execOp a.eval o).run P W = .ok (.value (.slice (some ⟨W.heap.size, 0, none⟩) 0 m)) (W.alloc (.cells (madeCells z.cells (m * i0.size)) e)) := by
    simp [execOp, ho, hx, hy, hr]
  refine event_step hw hrun (h _ _ ⟨fun k hk => ?_, [], ⟨by simp, .inr ⟨W.heap.size, m, _, rfl, hbase, heap_alloc_new W _, Nat.zero_le _, ?_, ?_, by simp⟩⟩, Reps.none _ _⟩ (HB.alloc hbase _) (World.grownBy_alloc W _ none) ⟨W.heap.size, by simp [Value.ownBlock], Nat.le_refl _⟩)
  · have : W.heap.size = k := by simpa [Value.ownBlock] using hk
    subst this
    exact hfresh
  · unfold maxLen; omega
  · rw [size_madeCells, hz1]
end
end Go.Proofs.YtapdifpmijgkcaaW.PrintWords.Kd
namespace Go.Proofs.YtapdifpmijgkcaaW.PrintWords
open Go.RowKit
/-- W' is W, some orders having been drawn and some memory made. -/
class Later (W W' : World) : Prop where
  out : Below W.heap.size W W'
instance Later.refl (W : World) : Later W W := ⟨Below.refl _ _⟩
instance Later.drewN (W W' : World) (n : Nat) [h : Later W W'] : Later W (W'.drewN n) := ⟨pw_below_drewN h.out n⟩
instance Later.drew (W W' : World) [h : Later W W'] : Later W W'.drew := ⟨below_drew1 h.out⟩
instance Later.alloc (W W' : World) (o : Obj) [h : Later W W'] : Later W (W'.alloc o) := ⟨below_alloc h.out o⟩
/-- Flags, told as a number's bits. -/
def bs (n m : Nat) : Array Bool := ((List.range n).map fun i => m.testBit i).toArray
theorem sA {α : Type} (l : List α) (i : Nat) (a : α) : l.toArray.setIfInBounds i a = (l.set i a).toArray := List.setIfInBounds_toArray l i a
theorem sB {α : Type} (x a : α) (l : List α) : (x :: l).set 0 a = a :: l := rfl
theorem sC {α : Type} (x a : α) (l : List α) (i : Nat) : (x :: l).set (i + 1) a = x :: l.set i a := rfl
section
variable {w W W' w1 : World}
theorem zb (h : Aside0 (Below w.heap.size w W)) [l : Later W W'] (hb : Below W'.heap.size W' w1) : Aside0 (Below w.heap.size w w1) := ⟨below_step (below_step h.out l.out) hb⟩
theorem zk {g : Nat} {o : Obj} (h : Aside0 (W.heap[g]? = some o)) [l : Later W W'] (hb : Below W'.heap.size W' w1) : Aside0 (w1.heap[g]? = some o) := ⟨blk_below (blk_below h.out l.out) hb⟩
theorem zr {α : Type} {d : Kd α} {e base : Nat} {ok : Nat → Prop} {v : Value} {xs : List α} (h : Aside0 (d.R e W base ok v xs)) [l : Later W W'] (hb : Below W'.heap.size W' w1) : Aside0 (d.R e w1 base ok v xs) := ⟨Kd.R_below (Kd.R_below h.out l.out) hb⟩
theorem zc {α : Type} {d : Kd α} {A : Option Addr} {n : Nat} {xs : List α} (h : Aside0 (d.C W A n xs)) [l : Later W W'] (hb : Below W'.heap.size W' w1) : Aside0 (d.C w1 A n xs) := ⟨Kd.C_below (Kd.C_below h.out l.out) hb⟩
theorem zb0 (h : Aside0 (Below w.heap.size w W)) [l : Later W W'] : Below w.heap.size w W' := below_step h.out l.out
theorem zk0 {g : Nat} {o : Obj} (h : Aside0 (W.heap[g]? = some o)) [l : Later W W'] : W'.heap[g]? = some o := blk_below h.out l.out
theorem zr0 {α : Type} {d : Kd α} {e base : Nat} {ok : Nat → Prop} {v : Value} {xs : List α} (h : Aside0 (d.R e W base ok v xs)) [l : Later W W'] : d.R e W' base ok v xs := Kd.R_below h.out l.out
theorem zl {α : Type} {d : Kd α} {e : Nat} {ok : Nat → Prop} {v : Value} {xs : List α} (h : Aside0 (Below w.heap.size w W)) [l : Later W W'] (ho : d.R e w1 W'.heap.size ok v xs) : Aside0 (d.R e w1 w.heap.size ok v xs) := ⟨Kd.R_lower ho (below_size (below_step h.out l.out))⟩
theorem zg {g : Nat} (h : Aside0 (Below w.heap.size w W)) [l : Later W W'] (hg : g = W'.heap.size) : Aside0 (w.heap.size ≤ g) := ⟨by rw [hg]; exact below_size (below_step h.out l.out)⟩
theorem zn {g g' : Nat} {o : Obj} (h : Aside0 (W.heap[g]? = some o)) [l : Later W W'] (hg : g' = W'.heap.size) : Aside0 (g ≠ g') := ⟨by rw [hg]; exact Nat.ne_of_lt (blk_lt (blk_below h.out l.out))⟩
theorem zn' {g g' : Nat} {o : Obj} (h : Aside0 (W.heap[g]? = some o)) [l : Later W W'] (hg : g' = W'.heap.size) : Aside0 (g' ≠ g) := ⟨(zn h hg).out.symm⟩
theorem zq1 {g : Nat} {t : TypeId} {v0 : Value} (h : Aside0 (W.heap[g]? = some (.cells #[v0] t (0, 0)))) : W.cell? ⟨g, 0, none⟩ = some v0 ∧ W.frozen? ⟨g, 0, none⟩ = false := ⟨(blk_cell h.out 0).trans rfl, blk_frozen h.out 0⟩
theorem zq2 {g : Nat} {t : TypeId} {v0 v1 : Value} (h : Aside0 (W.heap[g]? = some (.cells #[v0, v1] t (0, 0)))) : W.cell? ⟨g, 0, none⟩ = some v0 ∧ W.cell? ⟨g, 1, none⟩ = some v1 ∧ W.frozen? ⟨g, 0, none⟩ = false ∧ W.frozen? ⟨g, 1, none⟩ = false := ⟨(blk_cell h.out 0).trans rfl, (blk_cell h.out 1).trans rfl, blk_frozen h.out 0, blk_frozen h.out 1⟩
theorem zq3 {g : Nat} {t : TypeId} {v0 v1 v2 : Value} (h : Aside0 (W.heap[g]? = some (.cells #[v0, v1, v2] t (0, 0)))) : W.cell? ⟨g, 0, none⟩ = some v0 ∧ W.cell? ⟨g, 1, none⟩ = some v1 ∧ W.cell? ⟨g, 2, none⟩ = some v2 ∧ W.frozen? ⟨g, 0, none⟩ = false ∧ W.frozen? ⟨g, 1, none⟩ = false ∧ W.frozen? ⟨g, 2, none⟩ = false := ⟨(blk_cell h.out 0).trans rfl, (blk_cell h.out 1).trans rfl, (blk_cell h.out 2).trans rfl, blk_frozen h.out 0, blk_frozen h.out 1, blk_frozen h.out 2⟩
theorem zq4 {g : Nat} {t : TypeId} {v0 v1 v2 v3 : Value} (h : Aside0 (W.heap[g]? = some (.cells #[v0, v1, v2, v3] t (0, 0)))) : W.cell? ⟨g, 0, none⟩ = some v0 ∧ W.cell? ⟨g, 1, none⟩ = some v1 ∧ W.cell? ⟨g, 2, none⟩ = some v2 ∧ W.cell? ⟨g, 3, none⟩ = some v3 ∧ W.frozen? ⟨g, 0, none⟩ = false ∧ W.frozen? ⟨g, 1, none⟩ = false ∧ W.frozen? ⟨g, 2, none⟩ = false ∧ W.frozen? ⟨g, 3, none⟩ = false := ⟨(blk_cell h.out 0).trans rfl, (blk_cell h.out 1).trans rfl, (blk_cell h.out 2).trans rfl, (blk_cell h.out 3).trans rfl, blk_frozen h.out 0, blk_frozen h.out 1, blk_frozen h.out 2, blk_frozen h.out 3⟩
theorem zq5 {g : Nat} {t : TypeId} {v0 v1 v2 v3 v4 : Value} (h : Aside0 (W.heap[g]? = some (.cells #[v0, v1, v2, v3, v4] t (0, 0)))) : W.cell? ⟨g, 0, none⟩ = some v0 ∧ W.cell? ⟨g, 1, none⟩ = some v1 ∧ W.cell? ⟨g, 2, none⟩ = some v2 ∧ W.cell? ⟨g, 3, none⟩ = some v3 ∧ W.cell? ⟨g, 4, none⟩ = some v4 ∧ W.frozen? ⟨g, 0, none⟩ = false ∧ W.frozen? ⟨g, 1, none⟩ = false ∧ W.frozen? ⟨g, 2, none⟩ = false ∧ W.frozen? ⟨g, 3, none⟩ = false ∧ W.frozen? ⟨g, 4, none⟩ = false := ⟨(blk_cell h.out 0).trans rfl, (blk_cell h.out 1).trans rfl, (blk_cell h.out 2).trans rfl, (blk_cell h.out 3).trans rfl, (blk_cell h.out 4).trans rfl, blk_frozen h.out 0, blk_frozen h.out 1, blk_frozen h.out 2, blk_frozen h.out 3, blk_frozen h.out 4⟩
theorem zq6 {g : Nat} {t : TypeId} {v0 v1 v2 v3 v4 v5 : Value} (h : Aside0 (W.heap[g]? = some (.cells #[v0, v1, v2, v3, v4, v5] t (0, 0)))) : W.cell? ⟨g, 0, none⟩ = some v0 ∧ W.cell? ⟨g, 1, none⟩ = some v1 ∧ W.cell? ⟨g, 2, none⟩ = some v2 ∧ W.cell? ⟨g, 3, none⟩ = some v3 ∧ W.cell? ⟨g, 4, none⟩ = some v4 ∧ W.cell? ⟨g, 5, none⟩ = some v5 ∧ W.frozen? ⟨g, 0, none⟩ = false ∧ W.frozen? ⟨g, 1, none⟩ = false ∧ W.frozen? ⟨g, 2, none⟩ = false ∧ W.frozen? ⟨g, 3, none⟩ = false ∧ W.frozen? ⟨g, 4, none⟩ = false ∧ W.frozen? ⟨g, 5, none⟩ = false := ⟨(blk_cell h.out 0).trans rfl, (blk_cell h.out 1).trans rfl, (blk_cell h.out 2).trans rfl, (blk_cell h.out 3).trans rfl, (blk_cell h.out 4).trans rfl, (blk_cell h.out 5).trans rfl, blk_frozen h.out 0, blk_frozen h.out 1, blk_frozen h.out 2, blk_frozen h.out 3, blk_frozen h.out 4, blk_frozen h.out 5⟩
/-- W' is W but for stores into the block g (and orders that were drawn). -/
class Off (g : Nat) (W W' : World) : Prop where
  below : ∀ w : World, Below w.heap.size w W → w.heap.size ≤ g → Below w.heap.size w W'
  block : ∀ b, b ≠ g → W'.heap[b]? = W.heap[b]?
instance Off.refl (g : Nat) (W : World) : Off g W W := ⟨fun _ h _ => h, fun _ _ => rfl⟩
instance Off.drewN (g : Nat) (W W' : World) (n : Nat) [h : Off g W W'] : Off g W (W'.drewN n) := ⟨fun w hb hg => pw_below_drewN (h.below w hb hg) n, fun b hb => h.block b hb⟩
instance Off.drew (g : Nat) (W W' : World) [h : Off g W W'] : Off g W W'.drew := ⟨fun w hb hg => below_drew1 (h.below w hb hg), fun b hb => h.block b hb⟩
instance Off.store (g j : Nat) (v : Value) (W W' : World) [h : Off g W W'] : Off g W (W'.setCell ⟨g, j, none⟩ v) := ⟨fun w hb hg => below_set (h.below w hb hg) hg, fun b hb => (Below.heap_setCell W' ⟨g, j, none⟩ v b hb).trans (h.block b hb)⟩
/-- What the block g holds behind stores into it. -/
class Puts (g : Nat) (cs : Array Value) (W : World) (cs' : outParam (Array Value)) (W' : World) : Prop where
  out : ∀ t : TypeId, W.heap[g]? = some (.cells cs t (0, 0)) → W'.heap[g]? = some (.cells cs' t (0, 0))
instance Puts.refl (g : Nat) (cs : Array Value) (W : World) : Puts g cs W cs W := ⟨fun _ h => h⟩
instance Puts.drewN (g : Nat) (cs cs' : Array Value) (W W' : World) (n : Nat) [h : Puts g cs W cs' W'] : Puts g cs W cs' (W'.drewN n) := ⟨fun t hb => h.out t hb⟩
instance Puts.drew (g : Nat) (cs cs' : Array Value) (W W' : World) [h : Puts g cs W cs' W'] : Puts g cs W cs' W'.drew := ⟨fun t hb => h.out t hb⟩
instance Puts.store (g : Nat) (cs cs' : Array Value) (W W' : World) (j : Nat) (v : Value) [h : Puts g cs W cs' W'] : Puts g cs W (cs'.setIfInBounds j v) (W'.setCell ⟨g, j, none⟩ v) := ⟨fun t hb => blk_set (h.out t hb) j v⟩
theorem zf {g b : Nat} {o : Obj} (h : Aside0 (W.heap[b]? = some o)) (ne : Aside0 (b ≠ g)) [l : Off g W W'] : W'.heap[b]? = some o := (l.block b ne.out).trans h.out
theorem zp {g : Nat} {t : TypeId} {cs cs' cs'' : Array Value} (h : Aside0 (W.heap[g]? = some (.cells cs t (0, 0)))) [l : Puts g cs W cs' W'] (e : cs' = cs'') : W'.heap[g]? = some (.cells cs'' t (0, 0)) := e ▸ l.out t h.out
theorem zbo {g : Nat} (h : Aside0 (Below w.heap.size w W)) (ge : Aside0 (w.heap.size ≤ g)) [l : Off g W W'] : Below w.heap.size w W' := l.below w h.out ge.out
theorem zro {α : Type} {d : Kd α} {e base g t : Nat} {cells : Array Value} {ok : Nat → Prop} {v : Value} {xs : List α} (h : Aside0 (d.R e W base ok v xs)) (hk : Aside0 (W.heap[g]? = some (.cells cells t (0, 0)))) [l : Off g W W'] (ht : ∀ q, q ∈ e :: d.E → q ≠ t) : d.R e W' base ok v xs :=
  Kd.R_mono (Kd.R_step (Kd.R_types h.out hk.out ht) (fun k hk _ => l.block k hk.2)) (fun _ hk => hk.1)
/-- The same where the row's own ok tells it apart. -/
theorem zro' {α : Type} {d : Kd α} {e base g : Nat} {ok : Nat → Prop} {v : Value} {xs : List α} (h : Aside0 (d.R e W base ok v xs)) [l : Off g W W'] (hk : ∀ k, ok k → k ≠ g) : d.R e W' base ok v xs := Kd.R_step h.out (fun k ho _ => l.block k (hk k ho))
theorem zfk {g b : Nat} {o : Obj} (h : Aside0 (W.heap[b]? = some o)) (ne : Aside0 (b ≠ g)) [l : Off g W W'] (hb : Below W'.heap.size W' w1) : Aside0 (w1.heap[b]? = some o) := ⟨blk_below (zf h ne) hb⟩
theorem zkd {g : Nat} {o : Obj} (h : Aside0 (W.heap[g]? = some o)) : Aside0 (W.drew.heap[g]? = some o) := ⟨blk_drew h.out⟩
theorem zrd {α : Type} {d : Kd α} {e base : Nat} {ok : Nat → Prop} {v : Value} {xs : List α} (h : Aside0 (d.R e W base ok v xs)) : Aside0 (d.R e W.drew base ok v xs) := ⟨Kd.R_drew h.out⟩
theorem zbd (h : Aside0 (Below w.heap.size w W)) : Aside0 (Below w.heap.size w W.drew) := ⟨below_drew1 h.out⟩
end
end Go.Proofs.YtapdifpmijgkcaaW.PrintWords
namespace Go.Proofs.YtapdifpmijgkcaaW.PrintMore
open Go.RowKit
theorem max_five (ats : Array TypeId) (ty : TypeId) (a b c d e : Value) : Builtin.max_ ats ty #[a, b, c, d, e] = (Builtin.max2 a b >>= fun s => Builtin.max2 s c >>= fun s => Builtin.max2 s d >>= fun s => Builtin.max2 s e >>= fun s => pure s) := by simp only [Builtin.max_, List.foldlM_cons, List.foldlM_nil]
theorem min_five (ats : Array TypeId) (ty : TypeId) (a b c d e : Value) : Builtin.min_ ats ty #[a, b, c, d, e] = (Builtin.min2 a b >>= fun s => Builtin.min2 s c >>= fun s => Builtin.min2 s d >>= fun s => Builtin.min2 s e >>= fun s => pure s) := by simp only [Builtin.min_, List.foldlM_cons, List.foldlM_nil]
end Go.Proofs.YtapdifpmijgkcaaW.PrintMore
