/- Contracts of functions of the program, each as it is called: what it computes (.f), that it computes no less with more rounds (.mono), and that a call returns just that (.calls). No conditions but those that each contract names. Written by a program of this session (wip/gx.py over the kit's print). -/
import Derived.Test.YtapdifpmijgkcaaG0
import Derived.Test.YtapdifpmijgkcaaG1
import Derived.Test.YtapdifpmijgkcaaG9
namespace Go.Proofs.Ytapdifpmijgkcaa.G
open Go.RowKit Go.Proofs.YtapdifpmijgkcaaW.PrintWords Go.Proofs.YtapdifpmijgkcaaW.PrintLast Go.Proofs.YtapdifpmijgkcaaW.PrintMore
attribute [local go_sem] max2_int min2_int max_two min_two max_three min_three max_four min_four   -- for this text's walks alone
set_option linter.unusedVariables false
set_option linter.unusedSimpArgs false


/-! ### affine_Box: function 42 -/
def affine_Box.f (k : Nat) (a0_0 : Int) (a0_1 : Int) (a0_2 : Int) (a0_3 : Int) (a0_4 : Int) (a0_5 : Int) (a1_0 : Int) (a1_1 : Int) (a1_2 : Int) (a1_3 : Int) : Option (Int × Int × Int × Int × Int) := (affine_Check.f a0_0 a0_1 a0_2 a0_3 a0_4 a0_5).bind fun t315 => (if t315 = 0 then ((rect_Valid.f a1_0 a1_1 a1_2 a1_3).bind fun t316 => (if t316 = true then ((rect_Empty.f a1_0 a1_1 a1_2 a1_3).bind fun t317 => (if t317 = true then (some (0, 0, 0, 0, 0)) else ((affine_Box_1.f k a1_0 a1_1 a0_0 a0_1 a0_2 a0_3 a0_4 a0_5).bind fun Y0 => ((affine_Box_1.f k (wrap64 (a1_0 + a1_2)) a1_1 a0_0 a0_1 a0_2 a0_3 a0_4 a0_5).bind fun Y1 => ((affine_Box_1.f k a1_0 (wrap64 (a1_1 + a1_3)) a0_0 a0_1 a0_2 a0_3 a0_4 a0_5).bind fun Y2 => ((affine_Box_1.f k (wrap64 (a1_0 + a1_2)) (wrap64 (a1_1 + a1_3)) a0_0 a0_1 a0_2 a0_3 a0_4 a0_5).bind fun Y3 => ((affine_Box_2.f (mn (mn (mn Y0.1 Y1.1) Y2.1) Y3.1)).bind fun t330 => ((affine_Box_3.f (mx (mx (mx Y0.1 Y1.1) Y2.1) Y3.1)).bind fun t331 => ((affine_Box_2.f (mn (mn (mn Y0.2 Y1.2) Y2.2) Y3.2)).bind fun t332 => ((affine_Box_3.f (mx (mx (mx Y0.2 Y1.2) Y2.2) Y3.2)).bind fun t333 => (if t330 ≥ t331 then (some (0, 0, 0, 0, 0)) else (if t332 ≥ t333 then (some (0, 0, 0, 0, 0)) else (some (t330, t332, wrap64 (t331 - t330), wrap64 (t333 - t332), 0)))))))))))))) else (some (0, 0, 0, 0, 2)))) else (some (0, 0, 0, 0, t315)))
theorem affine_Box.mono : ∀ a0 a1 a2 a3 a4 a5 a6 a7 a8 a9 k, LeO (affine_Box.f k a0 a1 a2 a3 a4 a5 a6 a7 a8 a9) (affine_Box.f (k + 1) a0 a1 a2 a3 a4 a5 a6 a7 a8 a9) := by
  intro a0 a1 a2 a3 a4 a5 a6 a7 a8 a9 k
  unfold affine_Box.f
  repeat' first
      | (with_reducible exact affine_Box_1.mono _ _ _ _ _ _ _ _ _)
      | (with_reducible exact LeO.refl _)
      | (with_reducible exact LeO.none _)
      | (with_reducible refine LeO.ite ?_ ?_)
      | (with_reducible refine LeO.bind ?_ (fun _ => ?_))
      | exact affine_Box_1.mono _ _ _ _ _ _ _ _ _
      | exact LeO.none _
      | refine LeO.ite ?_ ?_
      | refine LeO.bind ?_ (fun _ => ?_)
def affine_Box.T9 : Bool × List (List Nat × List Nat) := (true, [([], []), ([], []), ([1], [1]), ([], []), ([3], [3]), ([0, 2, 4], [0, 2, 4]), ([], []), ([], []), ([7], [7]), ([], []), ([9], [9]), ([8, 10], [8, 10]), ([], []), ([12], [12]), ([6, 11, 13, 5], [6, 11, 13]), ([], []), ([], []), ([16], [16]), ([], []), ([18], [18]), ([], []), ([20], [20]), ([19, 21], [19, 21]), ([15, 17, 22, 14], [15, 17, 22]), ([], []), ([], []), ([25], [25]), ([], []), ([27], [27]), ([26, 28], [26, 28]), ([], []), ([30], [30]), ([], []), ([32], [32]), ([31, 33], [31, 33]), ([24, 29, 34, 23], [24, 29, 34]), ([], []), ([], []), ([], []), ([], []), ([36, 5, 35, 0, 1, 2, 3, 4, 5, 36, 37, 38, 39], [5, 36]), ([37, 14, 40, 0, 1, 2, 3, 4, 5, 6, 7, 8, 9, 10, 11, 12, 13, 14, 36, 37, 38, 39, 40], [14, 37]), ([38, 23, 41, 0, 1, 2, 3, 4, 5, 6, 7, 8, 9, 10, 11, 12, 13, 14, 15, 16, 17, 18, 19, 20, 21, 22, 23, 36, 37, 38, 39, 40, 41], [23, 38]), ([39, 35, 42, 0, 1, 2, 3, 4, 5, 6, 7, 8, 9, 10, 11, 12, 13, 14, 15, 16, 17, 18, 19, 20, 21, 22, 23, 24, 25, 26, 27, 28, 29, 30, 31, 32, 33, 34, 35, 36, 37, 38, 39, 40, 41, 42], [35, 39])])
def affine_Box.B9 : List Nat := [0, 0, 2, 0, 8, 31, 0, 0, 128, 0, 512, 1920, 0, 4096, 16383, 0, 0, 65536, 0, 262144, 0, 1048576, 3932160, 8388607, 0, 0, 33554432, 0, 134217728, 503316480, 0, 1073741824, 0, 4294967296, 16106127360, 34359738367, 0, 0, 0, 0, 1099511627775, 2199023255551, 4398046511103, 8796093022207]
theorem affine_Box.tab9 : rtab .any (opsOf Try.f42 9) = affine_Box.T9 := by kernel_rfl
theorem affine_Box.bits9 : waitsOk affine_Box.T9.2 affine_Box.B9 = true := by kernel_rfl
def affine_Box.T12 : Bool × List (List Nat × List Nat) := (true, [([], []), ([], []), ([1], [1]), ([], []), ([3], [3]), ([], []), ([5], [5]), ([], []), ([7], [7]), ([2, 4, 6, 8], [2, 4, 6, 8]), ([0, 9], [0, 9]), ([], []), ([], []), ([12], [12]), ([], []), ([14], [14]), ([], []), ([16], [16]), ([], []), ([18], [18]), ([13, 15, 17, 19], [13, 15, 17, 19]), ([11, 20, 10], [11, 20]), ([10, 21, 0, 1, 2, 3, 4, 5, 6, 7, 8, 9, 10], [10]), ([21, 22, 0, 1, 2, 3, 4, 5, 6, 7, 8, 9, 10, 11, 12, 13, 14, 15, 16, 17, 18, 19, 20, 21, 22], [21])])
def affine_Box.B12 : List Nat := [0, 0, 2, 0, 8, 0, 32, 0, 128, 510, 1023, 0, 0, 4096, 0, 16384, 0, 65536, 0, 262144, 1044480, 2097151, 4194303, 8388607]
theorem affine_Box.tab12 : rtab .any (opsOf Try.f42 12) = affine_Box.T12 := by kernel_rfl
theorem affine_Box.bits12 : waitsOk affine_Box.T12.2 affine_Box.B12 = true := by kernel_rfl
def affine_Box.T13 : Bool × List (List Nat × List Nat) := (true, [([], []), ([], []), ([1], [1]), ([], []), ([3], [3]), ([], []), ([5], [5]), ([], []), ([7], [7]), ([2, 4, 6, 8], [2, 4, 6, 8]), ([0, 9], [0, 9]), ([], []), ([], []), ([12], [12]), ([], []), ([14], [14]), ([], []), ([16], [16]), ([], []), ([18], [18]), ([13, 15, 17, 19], [13, 15, 17, 19]), ([11, 20, 10], [11, 20]), ([10, 21, 0, 1, 2, 3, 4, 5, 6, 7, 8, 9, 10], [10]), ([21, 22, 0, 1, 2, 3, 4, 5, 6, 7, 8, 9, 10, 11, 12, 13, 14, 15, 16, 17, 18, 19, 20, 21, 22], [21])])
def affine_Box.B13 : List Nat := [0, 0, 2, 0, 8, 0, 32, 0, 128, 510, 1023, 0, 0, 4096, 0, 16384, 0, 65536, 0, 262144, 1044480, 2097151, 4194303, 8388607]
theorem affine_Box.tab13 : rtab .any (opsOf Try.f42 13) = affine_Box.T13 := by kernel_rfl
theorem affine_Box.bits13 : waitsOk affine_Box.T13.2 affine_Box.B13 = true := by kernel_rfl
/-! #### Box's region of four variables beside four calls: what may come up, and what is known -/
/-- What has come up: c of the four calls, and which of the four variables. -/
def affine_Box.LL (c : Nat) (p q s t : Bool) : Array Bool := #[true, true, true, true, true, decide (1 ≤ c), true, true, true, true, true, true, true, true, decide (2 ≤ c), true, true, true, true, true, true, true, true, decide (3 ≤ c), true, true, true, true, true, true, true, true, true, true, true, decide (4 ≤ c), p, q, s, t, false, false, false, false]
/-- What may come up next. -/
def affine_Box.RR (c : Nat) (p q s t : Bool) : List Nat := (if c = 0 then [5] else if c = 1 then [14] else if c = 2 then [23] else if c = 3 then [35] else []) ++ ((if p then [] else [36]) ++ ((if q then [] else [37]) ++ ((if s then [] else [38]) ++ (if t then [] else [39]))))
theorem affine_Box.ready9 {md : Region.Mode} {ops : Array Oper} (hT : rtab md ops = affine_Box.T9) {c : Nat} {p q s t : Bool} (hc : c ≤ 4) (hne : affine_Box.RR c p q s t ≠ []) : Region.ready md ops (affine_Box.LL c p q s t) = affine_Box.RR c p q s t := by
 rw [ready_eq, hT]
 obtain _ | _ | _ | _ | _ | c := c
 iterate 5 (cases p <;> cases q <;> cases s <;> cases t <;> first | exact absurd rfl hne | kernel_rfl)
 omega
theorem affine_Box.RR_mem {c i : Nat} {p q s t : Bool} (h : i ∈ affine_Box.RR c p q s t) : (c = 0 ∧ i = 5) ∨ (c = 1 ∧ i = 14) ∨ (c = 2 ∧ i = 23) ∨ (c = 3 ∧ i = 35) ∨ (p = false ∧ i = 36) ∨ (q = false ∧ i = 37) ∨ (s = false ∧ i = 38) ∨ (t = false ∧ i = 39) := by
 unfold affine_Box.RR at h
 rw [List.mem_append, List.mem_append, List.mem_append, List.mem_append] at h
 rcases h with h | h | h | h | h
 · split at h
   · simp at h; omega
   split at h
   · simp at h; omega
   split at h
   · simp at h; omega
   split at h
   · simp at h; omega
   simp at h
 · cases p <;> simp at h; simp [h]
 · cases q <;> simp at h; simp [h]
 · cases s <;> simp at h; simp [h]
 · cases t <;> simp at h; simp [h]
theorem affine_Box.RR_ne {c : Nat} {p q s t : Bool} (hc : c ≤ 4) (h : ¬ (c = 4 ∧ p = true ∧ q = true ∧ s = true ∧ t = true)) : affine_Box.RR c p q s t ≠ [] := by
 intro e
 unfold affine_Box.RR at e
 simp only [List.append_eq_nil_iff] at e
 obtain ⟨e0, e1, e2, e3, e4⟩ := e
 refine h ⟨?_, ?_, ?_, ?_, ?_⟩
 · obtain _ | _ | _ | _ | _ | c := c <;> first | rfl | omega | (simp at e0)
 · cases p <;> simp_all
 · cases q <;> simp_all
 · cases s <;> simp_all
 · cases t <;> simp_all
/-- The blocks that stood, and those of the variables that have come up: apart from each other. -/
def affine_Box.FF (w : World) (B : List (Nat × Obj)) (z : Obj) (p q s t : Bool) (g1 g2 g3 g4 : Nat) (w' : World) : Prop :=
 Below w.heap.size w w' ∧ (∀ x ∈ B, w'.heap[x.1]? = some x.2) ∧
 (p = true → w'.heap[g1]? = some z ∧ w.heap.size ≤ g1 ∧ ∀ x ∈ B, x.1 ≠ g1) ∧ (q = true → w'.heap[g2]? = some z ∧ w.heap.size ≤ g2 ∧ ∀ x ∈ B, x.1 ≠ g2) ∧
 (s = true → w'.heap[g3]? = some z ∧ w.heap.size ≤ g3 ∧ ∀ x ∈ B, x.1 ≠ g3) ∧ (t = true → w'.heap[g4]? = some z ∧ w.heap.size ≤ g4 ∧ ∀ x ∈ B, x.1 ≠ g4) ∧
 (p = true → q = true → g1 ≠ g2) ∧ (p = true → s = true → g1 ≠ g3) ∧ (p = true → t = true → g1 ≠ g4) ∧ (q = true → s = true → g2 ≠ g3) ∧ (q = true → t = true → g2 ≠ g4) ∧ (s = true → t = true → g3 ≠ g4)
section
variable {w w' w1 : World} {B : List (Nat × Obj)} {z : Obj} {p q s t : Bool} {g1 g2 g3 g4 g : Nat}
theorem affine_Box.FF.call (h : affine_Box.FF w B z p q s t g1 g2 g3 g4 w') (hb : Below w'.heap.size w' w1) : affine_Box.FF w B z p q s t g1 g2 g3 g4 w1 := by
 obtain ⟨h0, hB, h1, h2, h3, h4, hd⟩ := h
 have k : ∀ {r : Bool} {y : Nat}, (r = true → w'.heap[y]? = some z ∧ w.heap.size ≤ y ∧ ∀ x ∈ B, x.1 ≠ y) → (r = true → w1.heap[y]? = some z ∧ w.heap.size ≤ y ∧ ∀ x ∈ B, x.1 ≠ y) := fun a e => ⟨blk_below (a e).1 hb, (a e).2⟩
 exact ⟨below_step h0 hb, fun x hx => blk_below (hB x hx) hb, k h1, k h2, k h3, k h4, hd⟩
theorem affine_Box.FF.new (h : affine_Box.FF w B z p q s t g1 g2 g3 g4 w') (hg : g = w'.heap.size) : w.heap.size ≤ g ∧ (∀ x ∈ B, x.1 ≠ g) ∧ (p = true → g1 ≠ g) ∧ (q = true → g2 ≠ g) ∧ (s = true → g3 ≠ g) ∧ (t = true → g4 ≠ g) := by
 obtain ⟨h0, hB, h1, h2, h3, h4, hd⟩ := h
 have k : ∀ {y : Nat} {o : Obj}, w'.heap[y]? = some o → y ≠ g := fun a => by rw [hg]; exact Nat.ne_of_lt (blk_lt a)
 exact ⟨by rw [hg]; exact below_size h0, fun x hx => k (hB x hx), fun e => k (h1 e).1, fun e => k (h2 e).1, fun e => k (h3 e).1, fun e => k (h4 e).1⟩
theorem affine_Box.FF.addp (h : affine_Box.FF w B z false q s t g1 g2 g3 g4 w') (hg : g = w'.heap.size) (hz : w1.heap[g]? = some z) (hb : Below w'.heap.size w' w1) : affine_Box.FF w B z true q s t g g2 g3 g4 w1 := by
  obtain ⟨nw, nB, n0, n1, n2, n3⟩ := h.new hg
  obtain ⟨hw, hB, h0, h1, h2, h3, d01, d02, d03, d12, d13, d23⟩ := h.call hb
  exact ⟨hw, hB, fun _ => ⟨hz, nw, nB⟩, h1, h2, h3, fun _ e => (n1 e).symm, fun _ e => (n2 e).symm, fun _ e => (n3 e).symm, d12, d13, d23⟩
theorem affine_Box.FF.addq (h : affine_Box.FF w B z p false s t g1 g2 g3 g4 w') (hg : g = w'.heap.size) (hz : w1.heap[g]? = some z) (hb : Below w'.heap.size w' w1) : affine_Box.FF w B z p true s t g1 g g3 g4 w1 := by
  obtain ⟨nw, nB, n0, n1, n2, n3⟩ := h.new hg
  obtain ⟨hw, hB, h0, h1, h2, h3, d01, d02, d03, d12, d13, d23⟩ := h.call hb
  exact ⟨hw, hB, h0, fun _ => ⟨hz, nw, nB⟩, h2, h3, fun e _ => n0 e, d02, d03, fun _ e => (n2 e).symm, fun _ e => (n3 e).symm, d23⟩
theorem affine_Box.FF.adds (h : affine_Box.FF w B z p q false t g1 g2 g3 g4 w') (hg : g = w'.heap.size) (hz : w1.heap[g]? = some z) (hb : Below w'.heap.size w' w1) : affine_Box.FF w B z p q true t g1 g2 g g4 w1 := by
  obtain ⟨nw, nB, n0, n1, n2, n3⟩ := h.new hg
  obtain ⟨hw, hB, h0, h1, h2, h3, d01, d02, d03, d12, d13, d23⟩ := h.call hb
  exact ⟨hw, hB, h0, h1, fun _ => ⟨hz, nw, nB⟩, h3, d01, fun e _ => n0 e, d03, fun e _ => n1 e, d13, fun _ e => (n3 e).symm⟩
theorem affine_Box.FF.addt (h : affine_Box.FF w B z p q s false g1 g2 g3 g4 w') (hg : g = w'.heap.size) (hz : w1.heap[g]? = some z) (hb : Below w'.heap.size w' w1) : affine_Box.FF w B z p q s true g1 g2 g3 g w1 := by
  obtain ⟨nw, nB, n0, n1, n2, n3⟩ := h.new hg
  obtain ⟨hw, hB, h0, h1, h2, h3, d01, d02, d03, d12, d13, d23⟩ := h.call hb
  exact ⟨hw, hB, h0, h1, h2, fun _ => ⟨hz, nw, nB⟩, d01, d02, fun e _ => n0 e, d12, fun e _ => n1 e, fun e _ => n2 e⟩
theorem affine_Box.FF.out {b1 b2 b3 : Nat} {o1 o2 o3 : Obj} (h : affine_Box.FF w [(b1, o1), (b2, o2), (b3, o3)] z true true true true g1 g2 g3 g4 w') : (w'.heap[b1]? = some o1) ∧ (w'.heap[b2]? = some o2) ∧ (w'.heap[b3]? = some o3) ∧ (w'.heap[g1]? = some z) ∧ (w'.heap[g2]? = some z) ∧ (w'.heap[g3]? = some z) ∧ (w'.heap[g4]? = some z) ∧ (w.heap.size ≤ g1) ∧ (w.heap.size ≤ g1) ∧ (b1 ≠ g1) ∧ (g1 ≠ b1) ∧ (b2 ≠ g1) ∧ (g1 ≠ b2) ∧ (b3 ≠ g1) ∧ (g1 ≠ b3) ∧ (g2 ≠ g1) ∧ (g1 ≠ g2) ∧ (g3 ≠ g1) ∧ (g1 ≠ g3) ∧ (g4 ≠ g1) ∧ (g1 ≠ g4) ∧ (w.heap.size ≤ g2) ∧ (w.heap.size ≤ g2) ∧ (b1 ≠ g2) ∧ (g2 ≠ b1) ∧ (b2 ≠ g2) ∧ (g2 ≠ b2) ∧ (b3 ≠ g2) ∧ (g2 ≠ b3) ∧ (g3 ≠ g2) ∧ (g2 ≠ g3) ∧ (g4 ≠ g2) ∧ (g2 ≠ g4) ∧ (w.heap.size ≤ g3) ∧ (w.heap.size ≤ g3) ∧ (b1 ≠ g3) ∧ (g3 ≠ b1) ∧ (b2 ≠ g3) ∧ (g3 ≠ b2) ∧ (b3 ≠ g3) ∧ (g3 ≠ b3) ∧ (g4 ≠ g3) ∧ (g3 ≠ g4) ∧ (w.heap.size ≤ g4) ∧ (w.heap.size ≤ g4) ∧ (b1 ≠ g4) ∧ (g4 ≠ b1) ∧ (b2 ≠ g4) ∧ (g4 ≠ b2) ∧ (b3 ≠ g4) ∧ (g4 ≠ b3) ∧ (Below w.heap.size w w') := by
 obtain ⟨hw, hB, h0, h1, h2, h3, d01, d02, d03, d12, d13, d23⟩ := h
 exact ⟨hB (b1, o1) (by simp), hB (b2, o2) (by simp), hB (b3, o3) (by simp), (h0 rfl).1, (h1 rfl).1, (h2 rfl).1, (h3 rfl).1, (h0 rfl).2.1, (h0 rfl).2.1, (h0 rfl).2.2 (b1, o1) (by simp), Ne.symm ((h0 rfl).2.2 (b1, o1) (by simp)), (h0 rfl).2.2 (b2, o2) (by simp), Ne.symm ((h0 rfl).2.2 (b2, o2) (by simp)), (h0 rfl).2.2 (b3, o3) (by simp), Ne.symm ((h0 rfl).2.2 (b3, o3) (by simp)), Ne.symm (d01 rfl rfl), d01 rfl rfl, Ne.symm (d02 rfl rfl), d02 rfl rfl, Ne.symm (d03 rfl rfl), d03 rfl rfl, (h1 rfl).2.1, (h1 rfl).2.1, (h1 rfl).2.2 (b1, o1) (by simp), Ne.symm ((h1 rfl).2.2 (b1, o1) (by simp)), (h1 rfl).2.2 (b2, o2) (by simp), Ne.symm ((h1 rfl).2.2 (b2, o2) (by simp)), (h1 rfl).2.2 (b3, o3) (by simp), Ne.symm ((h1 rfl).2.2 (b3, o3) (by simp)), Ne.symm (d12 rfl rfl), d12 rfl rfl, Ne.symm (d13 rfl rfl), d13 rfl rfl, (h2 rfl).2.1, (h2 rfl).2.1, (h2 rfl).2.2 (b1, o1) (by simp), Ne.symm ((h2 rfl).2.2 (b1, o1) (by simp)), (h2 rfl).2.2 (b2, o2) (by simp), Ne.symm ((h2 rfl).2.2 (b2, o2) (by simp)), (h2 rfl).2.2 (b3, o3) (by simp), Ne.symm ((h2 rfl).2.2 (b3, o3) (by simp)), Ne.symm (d23 rfl rfl), d23 rfl rfl, (h3 rfl).2.1, (h3 rfl).2.1, (h3 rfl).2.2 (b1, o1) (by simp), Ne.symm ((h3 rfl).2.2 (b1, o1) (by simp)), (h3 rfl).2.2 (b2, o2) (by simp), Ne.symm ((h3 rfl).2.2 (b2, o2) (by simp)), (h3 rfl).2.2 (b3, o3) (by simp), Ne.symm ((h3 rfl).2.2 (b3, o3) (by simp)), hw⟩
end
/-- In whatever order the calls and the variables come up: behind them all calls have come up, and the variables are apart. -/
theorem affine_Box.go9 {P : Program} {ops : Array Oper} {Q : Exit → Act → World → Prop} {S : World → Prop} (hT : rtab .any ops = affine_Box.T9)
 (A : Nat → Bool → Bool → Bool → Bool → Nat → Nat → Nat → Nat → Act) (F : Bool → Bool → Bool → Bool → Nat → Nat → Nat → Nat → World → Prop)
 (hS : ∀ p q s t g1 g2 g3 g4 w', F p q s t g1 g2 g3 g4 w' → S w')
 (h5 : ∀ p q s t g1 g2 g3 g4 w', F p q s t g1 g2 g3 g4 w' → wpOp P ops Q 5 (fun a1 w1 => a1 = A 1 p q s t g1 g2 g3 g4 ∧ F p q s t g1 g2 g3 g4 w1) (A 0 p q s t g1 g2 g3 g4) w')
 (h14 : ∀ p q s t g1 g2 g3 g4 w', F p q s t g1 g2 g3 g4 w' → wpOp P ops Q 14 (fun a1 w1 => a1 = A 2 p q s t g1 g2 g3 g4 ∧ F p q s t g1 g2 g3 g4 w1) (A 1 p q s t g1 g2 g3 g4) w')
 (h23 : ∀ p q s t g1 g2 g3 g4 w', F p q s t g1 g2 g3 g4 w' → wpOp P ops Q 23 (fun a1 w1 => a1 = A 3 p q s t g1 g2 g3 g4 ∧ F p q s t g1 g2 g3 g4 w1) (A 2 p q s t g1 g2 g3 g4) w')
 (h35 : ∀ p q s t g1 g2 g3 g4 w', F p q s t g1 g2 g3 g4 w' → wpOp P ops Q 35 (fun a1 w1 => a1 = A 4 p q s t g1 g2 g3 g4 ∧ F p q s t g1 g2 g3 g4 w1) (A 3 p q s t g1 g2 g3 g4) w')
 (h36 : ∀ c q s t g1 g2 g3 g4 w', F false q s t g1 g2 g3 g4 w' → wpOp P ops Q 36 (fun a1 w1 => ∃ g, a1 = A c true q s t g g2 g3 g4 ∧ F true q s t g g2 g3 g4 w1) (A c false q s t g1 g2 g3 g4) w')
 (h37 : ∀ c p s t g1 g2 g3 g4 w', F p false s t g1 g2 g3 g4 w' → wpOp P ops Q 37 (fun a1 w1 => ∃ g, a1 = A c p true s t g1 g g3 g4 ∧ F p true s t g1 g g3 g4 w1) (A c p false s t g1 g2 g3 g4) w')
 (h38 : ∀ c p q t g1 g2 g3 g4 w', F p q false t g1 g2 g3 g4 w' → wpOp P ops Q 38 (fun a1 w1 => ∃ g, a1 = A c p q true t g1 g2 g g4 ∧ F p q true t g1 g2 g g4 w1) (A c p q false t g1 g2 g3 g4) w')
 (h39 : ∀ c p q s g1 g2 g3 g4 w', F p q s false g1 g2 g3 g4 w' → wpOp P ops Q 39 (fun a1 w1 => ∃ g, a1 = A c p q s true g1 g2 g3 g ∧ F p q s true g1 g2 g3 g w1) (A c p q s false g1 g2 g3 g4) w')
 (hend : ∀ g1 g2 g3 g4 w', F true true true true g1 g2 g3 g4 w' → wpAnyLast P .any ops Q S [] 4 (affine_Box.LL 4 true true true true) (A 4 true true true true g1 g2 g3 g4) w') :
 ∀ (n c : Nat) (p q s t : Bool) (g1 g2 g3 g4 : Nat) (w' : World), n + c + p.toNat + q.toNat + s.toNat + t.toNat = 8 → c ≤ 4 → F p q s t g1 g2 g3 g4 w' → wpAnyLast P .any ops Q S [] (n + 4) (affine_Box.LL c p q s t) (A c p q s t g1 g2 g3 g4) w' := by
 intro n
 have b1 : ∀ r : Bool, r.toNat ≤ 1 := fun r => by cases r <;> decide
 have bt : ∀ r : Bool, r.toNat = 1 → r = true := fun r => by cases r <;> simp
 induction n with
 | zero =>
  intro c p q s t g1 g2 g3 g4 w' hn hc hF
  have e1 := b1 p
  have e2 := b1 q
  have e3 := b1 s
  have e4 := b1 t
  obtain rfl : c = 4 := by omega
  obtain rfl := bt p (by omega)
  obtain rfl := bt q (by omega)
  obtain rfl := bt s (by omega)
  obtain rfl := bt t (by omega)
  exact hend g1 g2 g3 g4 w' hF
 | succ n ih =>
  intro c p q s t g1 g2 g3 g4 w' hn hc hF
  have hne : affine_Box.RR c p q s t ≠ [] := affine_Box.RR_ne hc (fun h => by
   obtain ⟨rfl, rfl, rfl, rfl, rfl⟩ := h
   simp at hn)
  rw [show n + 1 + 4 = (n + 4) + 1 by omega]
  refine wpAnyLast_all (affine_Box.ready9 hT hc hne) hne (fun i hi => ?_)
  rcases affine_Box.RR_mem hi with ⟨rfl, rfl⟩ | ⟨rfl, rfl⟩ | ⟨rfl, rfl⟩ | ⟨rfl, rfl⟩ | ⟨rfl, rfl⟩ | ⟨rfl, rfl⟩ | ⟨rfl, rfl⟩ | ⟨rfl, rfl⟩
  · refine wpOp_mono (fun a1 w1 h => ?_) (h5 p q s t g1 g2 g3 g4 w' hF)
    obtain ⟨rfl, hF1⟩ := h
    exact ⟨fun _ _ => hS _ _ _ _ _ _ _ _ _ hF1, ih 1 p q s t g1 g2 g3 g4 w1 (by omega) (by omega) hF1⟩
  · refine wpOp_mono (fun a1 w1 h => ?_) (h14 p q s t g1 g2 g3 g4 w' hF)
    obtain ⟨rfl, hF1⟩ := h
    exact ⟨fun _ _ => hS _ _ _ _ _ _ _ _ _ hF1, ih 2 p q s t g1 g2 g3 g4 w1 (by omega) (by omega) hF1⟩
  · refine wpOp_mono (fun a1 w1 h => ?_) (h23 p q s t g1 g2 g3 g4 w' hF)
    obtain ⟨rfl, hF1⟩ := h
    exact ⟨fun _ _ => hS _ _ _ _ _ _ _ _ _ hF1, ih 3 p q s t g1 g2 g3 g4 w1 (by omega) (by omega) hF1⟩
  · refine wpOp_mono (fun a1 w1 h => ?_) (h35 p q s t g1 g2 g3 g4 w' hF)
    obtain ⟨rfl, hF1⟩ := h
    exact ⟨fun _ _ => hS _ _ _ _ _ _ _ _ _ hF1, ih 4 p q s t g1 g2 g3 g4 w1 (by omega) (by omega) hF1⟩
  · refine wpOp_mono (fun a1 w1 h => ?_) (h36 c q s t g1 g2 g3 g4 w' hF)
    obtain ⟨g, rfl, hF1⟩ := h
    exact ⟨fun _ _ => hS _ _ _ _ _ _ _ _ _ hF1, ih c true q s t g g2 g3 g4 w1 (by simp at hn ⊢; omega) hc hF1⟩
  · refine wpOp_mono (fun a1 w1 h => ?_) (h37 c p s t g1 g2 g3 g4 w' hF)
    obtain ⟨g, rfl, hF1⟩ := h
    exact ⟨fun _ _ => hS _ _ _ _ _ _ _ _ _ hF1, ih c p true s t g1 g g3 g4 w1 (by simp at hn ⊢; omega) hc hF1⟩
  · refine wpOp_mono (fun a1 w1 h => ?_) (h38 c p q t g1 g2 g3 g4 w' hF)
    obtain ⟨g, rfl, hF1⟩ := h
    exact ⟨fun _ _ => hS _ _ _ _ _ _ _ _ _ hF1, ih c p q true t g1 g2 g g4 w1 (by simp at hn ⊢; omega) hc hF1⟩
  · refine wpOp_mono (fun a1 w1 h => ?_) (h39 c p q s g1 g2 g3 g4 w' hF)
    obtain ⟨g, rfl, hF1⟩ := h
    exact ⟨fun _ _ => hS _ _ _ _ _ _ _ _ _ hF1, ih c p q s true g1 g2 g3 g w1 (by simp at hn ⊢; omega) hc hF1⟩
set_option maxHeartbeats 8000000 in
set_option maxRecDepth 100000 in
theorem affine_Box.calls (k : Nat) (a0_0 : Int) (a0_1 : Int) (a0_2 : Int) (a0_3 : Int) (a0_4 : Int) (a0_5 : Int) (a1_0 : Int) (a1_1 : Int) (a1_2 : Int) (a1_3 : Int) (r1 : Int) (r2 : Int) (r3 : Int) (r4 : Int) (r5 : Int) (w : World) (h : affine_Box.f k a0_0 a0_1 a0_2 a0_3 a0_4 a0_5 a1_0 a1_1 a1_2 a1_3 = some (r1, r2, r3, r4, r5)) :
    Calls Try.prog 42 #[.agg #[.int .i64 a0_0, .int .i64 a0_1, .int .i64 a0_2, .int .i64 a0_3, .int .i64 a0_4, .int .i64 a0_5], .agg #[.int .i64 a1_0, .int .i64 a1_1, .int .i64 a1_2, .int .i64 a1_3]] w fun e w' => e = .returned (.tuple #[.agg #[.int .i64 r1, .int .i64 r2, .int .i64 r3, .int .i64 r4], .int .i64 r5]) ∧ Below w.heap.size w w' := by
  have hu32 := Try.underlying32
  have hu27 := Try.underlying27
  have hu54 := Try.underlying54
  have HB := Aside0.mk (Below.refl w.heap.size w)
  have H : ((affine_Check.f a0_0 a0_1 a0_2 a0_3 a0_4 a0_5).bind fun t315 => (if t315 = 0 then ((rect_Valid.f a1_0 a1_1 a1_2 a1_3).bind fun t316 => (if t316 = true then ((rect_Empty.f a1_0 a1_1 a1_2 a1_3).bind fun t317 => (if t317 = true then (some (0, 0, 0, 0, 0)) else ((affine_Box_1.f k a1_0 a1_1 a0_0 a0_1 a0_2 a0_3 a0_4 a0_5).bind fun Y0 => ((affine_Box_1.f k (wrap64 (a1_0 + a1_2)) a1_1 a0_0 a0_1 a0_2 a0_3 a0_4 a0_5).bind fun Y1 => ((affine_Box_1.f k a1_0 (wrap64 (a1_1 + a1_3)) a0_0 a0_1 a0_2 a0_3 a0_4 a0_5).bind fun Y2 => ((affine_Box_1.f k (wrap64 (a1_0 + a1_2)) (wrap64 (a1_1 + a1_3)) a0_0 a0_1 a0_2 a0_3 a0_4 a0_5).bind fun Y3 => ((affine_Box_2.f (mn (mn (mn Y0.1 Y1.1) Y2.1) Y3.1)).bind fun t330 => ((affine_Box_3.f (mx (mx (mx Y0.1 Y1.1) Y2.1) Y3.1)).bind fun t331 => ((affine_Box_2.f (mn (mn (mn Y0.2 Y1.2) Y2.2) Y3.2)).bind fun t332 => ((affine_Box_3.f (mx (mx (mx Y0.2 Y1.2) Y2.2) Y3.2)).bind fun t333 => (if t330 ≥ t331 then (some (0, 0, 0, 0, 0)) else (if t332 ≥ t333 then (some (0, 0, 0, 0, 0)) else (some (t330, t332, wrap64 (t331 - t330), wrap64 (t333 - t332), 0)))))))))))))) else (some (0, 0, 0, 0, 2)))) else (some (0, 0, 0, 0, t315)))) = some (r1, r2, r3, r4, r5) := h
  clear h
  replace H := Option.bind_eq_some_iff.mp H
  obtain ⟨t315, A30, H⟩ := H
  try dsimp only at H
  have A3 := Aside0.mk A30
  clear A30
  by_cases c4 : t315 = 0
  rotate_left
  · rw [if_neg c4] at H
    have E0k : (t315 == 0) = false := beq_eq_false_iff_ne.mpr c4
    have E0l : (t315 != 0) = true := bne_iff_ne.mpr c4
    simp only [Option.some.injEq, Prod.mk.injEq] at H
    obtain ⟨rfl, rfl, rfl, rfl, rfl⟩ := H
    go_enter Try.func42, Try.ntmps42
    go_wp2_with (first | ((with_reducible refine gate_dst (N := 2) rfl ?_); refine box_event ?hg (N := 2) ?hd (cs := #[.int .i64 a0_0, .int .i64 a0_1, .int .i64 a0_2, .int .i64 a0_3, .int .i64 a0_4, .int .i64 a0_5]) (t := 32) ?hr ?_; (case hd => rfl); (case hg => rfl); (case hr => first | (go_simp; done) | (go_simp; rfl)); intro E7 hg w181 hbox hb; have Q7 := zg HB hg; have Q8 := zg HB hg; have n0_ := Aside0.mk (hbox); replace HB := zb HB hb; have E0 := n0_; clear n0_; clear hb hbox hg) | ((with_reducible refine gate_dst (N := 3) rfl ?_); refine box_event ?hg (N := 3) ?hd (cs := #[.int .i64 a1_0, .int .i64 a1_1, .int .i64 a1_2, .int .i64 a1_3]) (t := 27) ?hr ?_; (case hd => rfl); (case hg => rfl); (case hr => first | (go_simp; done) | (go_simp; rfl)); intro E8 hg w182 hbox hb; have Q9 := zg HB hg; have E0a := zg HB hg; have Y5 := zn E0 hg; have Y6 := zn' E0 hg; have n0_ := Aside0.mk (hbox); replace E0 := zk E0 hb; replace HB := zb HB hb; have E1 := n0_; clear n0_; clear hb hbox hg) | ((with_reducible refine gate_dst (N := 4) rfl ?_); refine box_event ?hg (N := 4) ?hd (cs := #[.int .i64 0, .int .i64 0, .int .i64 0, .int .i64 0]) (t := 27) ?hr ?_; (case hd => rfl); (case hg => rfl); (case hr => first | (go_simp; done) | (go_simp; rfl)); intro G3 hg w183 hbox hb; have E0b := zg HB hg; have Y4 := zg HB hg; have Y7 := zn E0 hg; have Y8 := zn' E0 hg; have Y9 := zn E1 hg; have Z0 := zn' E1 hg; have n0_ := Aside0.mk (hbox); replace E0 := zk E0 hb; replace E1 := zk E1 hb; replace HB := zb HB hb; have E2 := n0_; clear n0_; clear hb hbox hg; have E0s := Y5.out; have E0t := Y6.out; have E0u := Y7.out; have E0v := Y8.out; obtain ⟨E0w, E0x, E0y, E0z, E0A, E0B, E0C, E0D, E0E, E0F, E0G, E0H⟩ := zq6 E0) | ((with_reducible refine gate_callee (f := 46) rfl ?_); refine goesL_ (some 19) rfl rfl Try.func46 (by kernel_rfl) rfl #[.agg #[.int .i64 a0_0, .int .i64 a0_1, .int .i64 a0_2, .int .i64 a0_3, .int .i64 a0_4, .int .i64 a0_5]] rfl (by (try simp only [List.map_toArray, List.map_cons, List.map_nil]); first | done | rfl | (simp only [List.length_drop, List.length_take]; rfl)) ?_; (with_reducible refine (affine_Check.calls a0_0 a0_1 a0_2 a0_3 a0_4 a0_5 t315 _ A3.out).mono ?_); rintro e w187 ⟨rfl, hb⟩; refine ⟨_, rfl, ?_⟩; replace E0 := zk E0 hb; replace E1 := zk E1 hb; replace E2 := zk E2 hb; replace HB := zb HB hb; (try clear hb); have E0I := Z0.out; have E0J := Y9.out; obtain ⟨E0K, E0L, E0M, E0N, E0O, E0P, E0Q, E0R⟩ := zq4 E2))
    refine bodyPost_ret (results_ct rfl _ _ G3 27 #[.int .i64 0, .int .i64 0, .int .i64 0, .int .i64 0] (0, 0) _ rfl (by exact zp E2 rfl) Try.underlying27 rfl (by kernel_rfl)) rfl ?_
    exact ⟨by first | rfl | (simp [errW_none, errW_some] <;> rfl) | (simp [*, errW_none, errW_some] <;> rfl), by exact zbo HB Y4⟩

  rw [if_pos c4] at H
  have E0k : (t315 == 0) = true := beq_iff_eq.mpr c4
  have E0l : (t315 != 0) = false := bne_eq_false_iff_eq.mpr c4
  clear c4
  replace H := Option.bind_eq_some_iff.mp H
  obtain ⟨t316, A50, H⟩ := H
  try dsimp only at H
  have A5 := Aside0.mk A50
  clear A50
  by_cases c6 : t316 = true
  rotate_left
  · replace c6 := Bool.eq_false_iff.mpr c6
    subst c6
    rw [if_neg (show ¬ (false = true) by decide)] at H
    simp only [Option.some.injEq, Prod.mk.injEq] at H
    obtain ⟨rfl, rfl, rfl, rfl, rfl⟩ := H
    go_enter Try.func42, Try.ntmps42
    go_wp2_with (first | ((with_reducible refine gate_dst (N := 2) rfl ?_); refine box_event ?hg (N := 2) ?hd (cs := #[.int .i64 a0_0, .int .i64 a0_1, .int .i64 a0_2, .int .i64 a0_3, .int .i64 a0_4, .int .i64 a0_5]) (t := 32) ?hr ?_; (case hd => rfl); (case hg => rfl); (case hr => first | (go_simp; done) | (go_simp; rfl)); intro E7 hg w170 hbox hb; have Q7 := zg HB hg; have Q8 := zg HB hg; have n0_ := Aside0.mk (hbox); replace HB := zb HB hb; have E0 := n0_; clear n0_; clear hb hbox hg) | ((with_reducible refine gate_dst (N := 3) rfl ?_); refine box_event ?hg (N := 3) ?hd (cs := #[.int .i64 a1_0, .int .i64 a1_1, .int .i64 a1_2, .int .i64 a1_3]) (t := 27) ?hr ?_; (case hd => rfl); (case hg => rfl); (case hr => first | (go_simp; done) | (go_simp; rfl)); intro E8 hg w171 hbox hb; have Q9 := zg HB hg; have E0a := zg HB hg; have Y5 := zn E0 hg; have Y6 := zn' E0 hg; have n0_ := Aside0.mk (hbox); replace E0 := zk E0 hb; replace HB := zb HB hb; have E1 := n0_; clear n0_; clear hb hbox hg) | ((with_reducible refine gate_dst (N := 4) rfl ?_); refine box_event ?hg (N := 4) ?hd (cs := #[.int .i64 0, .int .i64 0, .int .i64 0, .int .i64 0]) (t := 27) ?hr ?_; (case hd => rfl); (case hg => rfl); (case hr => first | (go_simp; done) | (go_simp; rfl)); intro G3 hg w172 hbox hb; have E0b := zg HB hg; have Y4 := zg HB hg; have Y7 := zn E0 hg; have Y8 := zn' E0 hg; have Y9 := zn E1 hg; have Z0 := zn' E1 hg; have n0_ := Aside0.mk (hbox); replace E0 := zk E0 hb; replace E1 := zk E1 hb; replace HB := zb HB hb; have E2 := n0_; clear n0_; clear hb hbox hg; have E0S := Y5.out; have E0T := Y6.out; have E0U := Y7.out; have E0V := Y8.out; obtain ⟨E0W, E0X, E0Y, E0Z, E1a, E1b, E1c, E1d, E1e, E1f, E1g, E1h⟩ := zq6 E0) | ((with_reducible refine gate_callee (f := 46) rfl ?_); refine goesL_ (some 19) rfl rfl Try.func46 (by kernel_rfl) rfl #[.agg #[.int .i64 a0_0, .int .i64 a0_1, .int .i64 a0_2, .int .i64 a0_3, .int .i64 a0_4, .int .i64 a0_5]] rfl (by (try simp only [List.map_toArray, List.map_cons, List.map_nil]); first | done | rfl | (simp only [List.length_drop, List.length_take]; rfl)) ?_; (with_reducible refine (affine_Check.calls a0_0 a0_1 a0_2 a0_3 a0_4 a0_5 t315 _ A3.out).mono ?_); rintro e w176 ⟨rfl, hb⟩; refine ⟨_, rfl, ?_⟩; replace E0 := zk E0 hb; replace E1 := zk E1 hb; replace E2 := zk E2 hb; replace HB := zb HB hb; (try clear hb); have E1i := Y9.out; have E1j := Z0.out; obtain ⟨E1k, E1l, E1m, E1n, E1o, E1p, E1q, E1r⟩ := zq4 E1) | ((with_reducible refine gate_callee (f := 24) rfl ?_); refine goesL_ (some 25) rfl rfl Try.func24 (by kernel_rfl) rfl #[.agg #[.int .i64 a1_0, .int .i64 a1_1, .int .i64 a1_2, .int .i64 a1_3]] rfl (by (try simp only [List.map_toArray, List.map_cons, List.map_nil]); first | done | rfl | (simp only [List.length_drop, List.length_take]; rfl)) ?_; (with_reducible refine (rect_Valid.calls a1_0 a1_1 a1_2 a1_3 false _ A5.out).mono ?_); rintro e w179 ⟨rfl, hb⟩; refine ⟨_, rfl, ?_⟩; replace E0 := zk E0 hb; replace E1 := zk E1 hb; replace E2 := zk E2 hb; replace HB := zb HB hb; (try clear hb); obtain ⟨E1s, E1t, E1u, E1v, E1w, E1x, E1y, E1z⟩ := zq4 E2))
    refine bodyPost_ret (results_ct rfl _ _ G3 27 #[.int .i64 0, .int .i64 0, .int .i64 0, .int .i64 0] (0, 0) _ rfl (by exact zp E2 rfl) Try.underlying27 rfl (by kernel_rfl)) rfl ?_
    exact ⟨by first | rfl | (simp [errW_none, errW_some] <;> rfl) | (simp [*, errW_none, errW_some] <;> rfl), by exact zbo HB Y4⟩
  subst c6
  rw [if_pos rfl] at H
  replace H := Option.bind_eq_some_iff.mp H
  obtain ⟨t317, A70, H⟩ := H
  try dsimp only at H
  have A7 := Aside0.mk A70
  clear A70
  by_cases c8 : t317 = true
  · subst c8
    rw [if_pos rfl] at H
    simp only [Option.some.injEq, Prod.mk.injEq] at H
    obtain ⟨rfl, rfl, rfl, rfl, rfl⟩ := H
    go_enter Try.func42, Try.ntmps42
    go_wp2_with (first | ((with_reducible refine gate_dst (N := 2) rfl ?_); refine box_event ?hg (N := 2) ?hd (cs := #[.int .i64 a0_0, .int .i64 a0_1, .int .i64 a0_2, .int .i64 a0_3, .int .i64 a0_4, .int .i64 a0_5]) (t := 32) ?hr ?_; (case hd => rfl); (case hg => rfl); (case hr => first | (go_simp; done) | (go_simp; rfl)); intro E7 hg w9 hbox hb; have Q7 := zg HB hg; have Q8 := zg HB hg; have n0_ := Aside0.mk (hbox); replace HB := zb HB hb; have E0 := n0_; clear n0_; clear hb hbox hg) | ((with_reducible refine gate_dst (N := 3) rfl ?_); refine box_event ?hg (N := 3) ?hd (cs := #[.int .i64 a1_0, .int .i64 a1_1, .int .i64 a1_2, .int .i64 a1_3]) (t := 27) ?hr ?_; (case hd => rfl); (case hg => rfl); (case hr => first | (go_simp; done) | (go_simp; rfl)); intro E8 hg w10 hbox hb; have Q9 := zg HB hg; have E0a := zg HB hg; have Y5 := zn E0 hg; have Y6 := zn' E0 hg; have n0_ := Aside0.mk (hbox); replace E0 := zk E0 hb; replace HB := zb HB hb; have E1 := n0_; clear n0_; clear hb hbox hg) | ((with_reducible refine gate_dst (N := 4) rfl ?_); refine box_event ?hg (N := 4) ?hd (cs := #[.int .i64 0, .int .i64 0, .int .i64 0, .int .i64 0]) (t := 27) ?hr ?_; (case hd => rfl); (case hg => rfl); (case hr => first | (go_simp; done) | (go_simp; rfl)); intro G3 hg w11 hbox hb; have E0b := zg HB hg; have Y4 := zg HB hg; have Y7 := zn E0 hg; have Y8 := zn' E0 hg; have Y9 := zn E1 hg; have Z0 := zn' E1 hg; have n0_ := Aside0.mk (hbox); replace E0 := zk E0 hb; replace E1 := zk E1 hb; replace HB := zb HB hb; have E2 := n0_; clear n0_; clear hb hbox hg; have E1A := Y5.out; have E1B := Y6.out; have E1C := Y7.out; have E1D := Y8.out; obtain ⟨E1E, E1F, E1G, E1H, E1I, E1J, E1K, E1L, E1M, E1N, E1O, E1P⟩ := zq6 E0) | ((with_reducible refine gate_callee (f := 46) rfl ?_); refine goesL_ (some 19) rfl rfl Try.func46 (by kernel_rfl) rfl #[.agg #[.int .i64 a0_0, .int .i64 a0_1, .int .i64 a0_2, .int .i64 a0_3, .int .i64 a0_4, .int .i64 a0_5]] rfl (by (try simp only [List.map_toArray, List.map_cons, List.map_nil]); first | done | rfl | (simp only [List.length_drop, List.length_take]; rfl)) ?_; (with_reducible refine (affine_Check.calls a0_0 a0_1 a0_2 a0_3 a0_4 a0_5 t315 _ A3.out).mono ?_); rintro e w15 ⟨rfl, hb⟩; refine ⟨_, rfl, ?_⟩; replace E0 := zk E0 hb; replace E1 := zk E1 hb; replace E2 := zk E2 hb; replace HB := zb HB hb; (try clear hb); have E1Q := Y9.out; have E1R := Z0.out; obtain ⟨E1S, E1T, E1U, E1V, E1W, E1X, E1Y, E1Z⟩ := zq4 E1) | ((with_reducible refine gate_callee (f := 24) rfl ?_); refine goesL_ (some 25) rfl rfl Try.func24 (by kernel_rfl) rfl #[.agg #[.int .i64 a1_0, .int .i64 a1_1, .int .i64 a1_2, .int .i64 a1_3]] rfl (by (try simp only [List.map_toArray, List.map_cons, List.map_nil]); first | done | rfl | (simp only [List.length_drop, List.length_take]; rfl)) ?_; (with_reducible refine (rect_Valid.calls a1_0 a1_1 a1_2 a1_3 true _ A5.out).mono ?_); rintro e w18 ⟨rfl, hb⟩; refine ⟨_, rfl, ?_⟩; replace E0 := zk E0 hb; replace E1 := zk E1 hb; replace E2 := zk E2 hb; replace HB := zb HB hb; (try clear hb); obtain ⟨E2a, E2b, E2c, E2d, E2e, E2f, E2g, E2h⟩ := zq4 E1) | ((with_reducible refine gate_callee (f := 12) rfl ?_); refine goesL_ (some 29) rfl rfl Try.func12 (by kernel_rfl) rfl #[.agg #[.int .i64 a1_0, .int .i64 a1_1, .int .i64 a1_2, .int .i64 a1_3]] rfl (by (try simp only [List.map_toArray, List.map_cons, List.map_nil]); first | done | rfl | (simp only [List.length_drop, List.length_take]; rfl)) ?_; (with_reducible refine (rect_Empty.calls a1_0 a1_1 a1_2 a1_3 true _ A7.out).mono ?_); rintro e w20 ⟨rfl, hb⟩; refine ⟨_, rfl, ?_⟩; replace E0 := zk E0 hb; replace E1 := zk E1 hb; replace E2 := zk E2 hb; replace HB := zb HB hb; (try clear hb); obtain ⟨E2i, E2j, E2k, E2l, E2m, E2n, E2o, E2p⟩ := zq4 E2))
    refine bodyPost_ret (results_ct rfl _ _ G3 27 #[.int .i64 0, .int .i64 0, .int .i64 0, .int .i64 0] (0, 0) _ rfl (by exact zp E2 rfl) Try.underlying27 rfl (by kernel_rfl)) rfl ?_
    exact ⟨by first | rfl | (simp [errW_none, errW_some] <;> rfl) | (simp [*, errW_none, errW_some] <;> rfl), by exact zbo HB Y4⟩
  replace c8 := Bool.eq_false_iff.mpr c8
  subst c8
  rw [if_neg (show ¬ (false = true) by decide)] at H
  replace H := Option.bind_eq_some_iff.mp H
  obtain ⟨⟨t318, t319⟩, A220, H⟩ := H
  try dsimp only at H
  have A22 := Aside0.mk A220
  clear A220
  replace H := Option.bind_eq_some_iff.mp H
  obtain ⟨⟨t320, t321⟩, A230, H⟩ := H
  try dsimp only at H
  have A23 := Aside0.mk A230
  clear A230
  replace H := Option.bind_eq_some_iff.mp H
  obtain ⟨⟨t322, t323⟩, A240, H⟩ := H
  try dsimp only at H
  have A24 := Aside0.mk A240
  clear A240
  replace H := Option.bind_eq_some_iff.mp H
  obtain ⟨⟨t324, t325⟩, A250, H⟩ := H
  try dsimp only at H
  have A25 := Aside0.mk A250
  clear A250
  obtain ⟨J7, V3⟩ : ∃ j_ : Int, (mn t318 t320) = j_ := ⟨_, rfl⟩
  replace H : ((affine_Box_2.f (mn (mn (J7) t322) t324)).bind fun t330 => ((affine_Box_3.f (mx (mx (mx t318 t320) t322) t324)).bind fun t331 => ((affine_Box_2.f (mn (mn (mn t319 t321) t323) t325)).bind fun t332 => ((affine_Box_3.f (mx (mx (mx t319 t321) t323) t325)).bind fun t333 => (if t330 ≥ t331 then (some (0, 0, 0, 0, 0)) else (if t332 ≥ t333 then (some (0, 0, 0, 0, 0)) else (some (t330, t332, wrap64 (t331 - t330), wrap64 (t333 - t332), 0)))))))) = some (r1, r2, r3, r4, r5) := by first | (rw [V3] at H; exact H) | (simp only [V3] at H ⊢; exact H)
  (try rw [V3] at A3)
  (try rw [V3] at A5)
  (try rw [V3] at A7)
  (try rw [V3] at A22)
  (try rw [V3] at A23)
  (try rw [V3] at A24)
  (try rw [V3] at A25)
  have hji26_ : (if t320 < t318 then t320 else t318) = J7 := V3
  obtain ⟨J8, V4⟩ : ∃ j_ : Int, (mn (J7) t322) = j_ := ⟨_, rfl⟩
  replace H : ((affine_Box_2.f (mn (J8) t324)).bind fun t330 => ((affine_Box_3.f (mx (mx (mx t318 t320) t322) t324)).bind fun t331 => ((affine_Box_2.f (mn (mn (mn t319 t321) t323) t325)).bind fun t332 => ((affine_Box_3.f (mx (mx (mx t319 t321) t323) t325)).bind fun t333 => (if t330 ≥ t331 then (some (0, 0, 0, 0, 0)) else (if t332 ≥ t333 then (some (0, 0, 0, 0, 0)) else (some (t330, t332, wrap64 (t331 - t330), wrap64 (t333 - t332), 0)))))))) = some (r1, r2, r3, r4, r5) := by first | (rw [V4] at H; exact H) | (simp only [V4] at H ⊢; exact H)
  (try rw [V4] at A3)
  (try rw [V4] at A5)
  (try rw [V4] at A7)
  (try rw [V4] at A22)
  (try rw [V4] at A23)
  (try rw [V4] at A24)
  (try rw [V4] at A25)
  have hji27_ : (if t322 < (J7) then t322 else (J7)) = J8 := V4
  obtain ⟨L9, V5⟩ : ∃ j_ : Int, (mn (J8) t324) = j_ := ⟨_, rfl⟩
  replace H : ((affine_Box_2.f (L9)).bind fun t330 => ((affine_Box_3.f (mx (mx (mx t318 t320) t322) t324)).bind fun t331 => ((affine_Box_2.f (mn (mn (mn t319 t321) t323) t325)).bind fun t332 => ((affine_Box_3.f (mx (mx (mx t319 t321) t323) t325)).bind fun t333 => (if t330 ≥ t331 then (some (0, 0, 0, 0, 0)) else (if t332 ≥ t333 then (some (0, 0, 0, 0, 0)) else (some (t330, t332, wrap64 (t331 - t330), wrap64 (t333 - t332), 0)))))))) = some (r1, r2, r3, r4, r5) := by first | (rw [V5] at H; exact H) | (simp only [V5] at H ⊢; exact H)
  (try rw [V5] at A3)
  (try rw [V5] at A5)
  (try rw [V5] at A7)
  (try rw [V5] at A22)
  (try rw [V5] at A23)
  (try rw [V5] at A24)
  (try rw [V5] at A25)
  have hji28_ : (if t324 < (J8) then t324 else (J8)) = L9 := V5
  replace H := Option.bind_eq_some_iff.mp H
  obtain ⟨t330, A290, H⟩ := H
  try dsimp only at H
  have A29 := Aside0.mk A290
  clear A290
  obtain ⟨J9, V0⟩ : ∃ j_ : Int, (mx t318 t320) = j_ := ⟨_, rfl⟩
  replace H : ((affine_Box_3.f (mx (mx (J9) t322) t324)).bind fun t331 => ((affine_Box_2.f (mn (mn (mn t319 t321) t323) t325)).bind fun t332 => ((affine_Box_3.f (mx (mx (mx t319 t321) t323) t325)).bind fun t333 => (if t330 ≥ t331 then (some (0, 0, 0, 0, 0)) else (if t332 ≥ t333 then (some (0, 0, 0, 0, 0)) else (some (t330, t332, wrap64 (t331 - t330), wrap64 (t333 - t332), 0))))))) = some (r1, r2, r3, r4, r5) := by first | (rw [V0] at H; exact H) | (simp only [V0] at H ⊢; exact H)
  (try rw [V0] at A3)
  (try rw [V0] at A5)
  (try rw [V0] at A7)
  (try rw [V0] at A22)
  (try rw [V0] at A23)
  (try rw [V0] at A24)
  (try rw [V0] at A25)
  (try rw [V0] at A29)
  have hji30_ : (if t318 < t320 then t320 else t318) = J9 := V0
  obtain ⟨L0, V1⟩ : ∃ j_ : Int, (mx (J9) t322) = j_ := ⟨_, rfl⟩
  replace H : ((affine_Box_3.f (mx (L0) t324)).bind fun t331 => ((affine_Box_2.f (mn (mn (mn t319 t321) t323) t325)).bind fun t332 => ((affine_Box_3.f (mx (mx (mx t319 t321) t323) t325)).bind fun t333 => (if t330 ≥ t331 then (some (0, 0, 0, 0, 0)) else (if t332 ≥ t333 then (some (0, 0, 0, 0, 0)) else (some (t330, t332, wrap64 (t331 - t330), wrap64 (t333 - t332), 0))))))) = some (r1, r2, r3, r4, r5) := by first | (rw [V1] at H; exact H) | (simp only [V1] at H ⊢; exact H)
  (try rw [V1] at A3)
  (try rw [V1] at A5)
  (try rw [V1] at A7)
  (try rw [V1] at A22)
  (try rw [V1] at A23)
  (try rw [V1] at A24)
  (try rw [V1] at A25)
  (try rw [V1] at A29)
  have hji31_ : (if (J9) < t322 then t322 else (J9)) = L0 := V1
  obtain ⟨Q0, V2⟩ : ∃ j_ : Int, (mx (L0) t324) = j_ := ⟨_, rfl⟩
  replace H : ((affine_Box_3.f (Q0)).bind fun t331 => ((affine_Box_2.f (mn (mn (mn t319 t321) t323) t325)).bind fun t332 => ((affine_Box_3.f (mx (mx (mx t319 t321) t323) t325)).bind fun t333 => (if t330 ≥ t331 then (some (0, 0, 0, 0, 0)) else (if t332 ≥ t333 then (some (0, 0, 0, 0, 0)) else (some (t330, t332, wrap64 (t331 - t330), wrap64 (t333 - t332), 0))))))) = some (r1, r2, r3, r4, r5) := by first | (rw [V2] at H; exact H) | (simp only [V2] at H ⊢; exact H)
  (try rw [V2] at A3)
  (try rw [V2] at A5)
  (try rw [V2] at A7)
  (try rw [V2] at A22)
  (try rw [V2] at A23)
  (try rw [V2] at A24)
  (try rw [V2] at A25)
  (try rw [V2] at A29)
  have hji32_ : (if (L0) < t324 then t324 else (L0)) = Q0 := V2
  replace H := Option.bind_eq_some_iff.mp H
  obtain ⟨t331, A330, H⟩ := H
  try dsimp only at H
  have A33 := Aside0.mk A330
  clear A330
  obtain ⟨L1, G7⟩ : ∃ j_ : Int, (mn t319 t321) = j_ := ⟨_, rfl⟩
  replace H : ((affine_Box_2.f (mn (mn (L1) t323) t325)).bind fun t332 => ((affine_Box_3.f (mx (mx (mx t319 t321) t323) t325)).bind fun t333 => (if t330 ≥ t331 then (some (0, 0, 0, 0, 0)) else (if t332 ≥ t333 then (some (0, 0, 0, 0, 0)) else (some (t330, t332, wrap64 (t331 - t330), wrap64 (t333 - t332), 0)))))) = some (r1, r2, r3, r4, r5) := by first | (rw [G7] at H; exact H) | (simp only [G7] at H ⊢; exact H)
  (try rw [G7] at A3)
  (try rw [G7] at A5)
  (try rw [G7] at A7)
  (try rw [G7] at A22)
  (try rw [G7] at A23)
  (try rw [G7] at A24)
  (try rw [G7] at A25)
  (try rw [G7] at A29)
  (try rw [G7] at A33)
  have hji34_ : (if t321 < t319 then t321 else t319) = L1 := G7
  obtain ⟨L2, G8⟩ : ∃ j_ : Int, (mn (L1) t323) = j_ := ⟨_, rfl⟩
  replace H : ((affine_Box_2.f (mn (L2) t325)).bind fun t332 => ((affine_Box_3.f (mx (mx (mx t319 t321) t323) t325)).bind fun t333 => (if t330 ≥ t331 then (some (0, 0, 0, 0, 0)) else (if t332 ≥ t333 then (some (0, 0, 0, 0, 0)) else (some (t330, t332, wrap64 (t331 - t330), wrap64 (t333 - t332), 0)))))) = some (r1, r2, r3, r4, r5) := by first | (rw [G8] at H; exact H) | (simp only [G8] at H ⊢; exact H)
  (try rw [G8] at A3)
  (try rw [G8] at A5)
  (try rw [G8] at A7)
  (try rw [G8] at A22)
  (try rw [G8] at A23)
  (try rw [G8] at A24)
  (try rw [G8] at A25)
  (try rw [G8] at A29)
  (try rw [G8] at A33)
  have hji35_ : (if t323 < (L1) then t323 else (L1)) = L2 := G8
  obtain ⟨Q1, G9⟩ : ∃ j_ : Int, (mn (L2) t325) = j_ := ⟨_, rfl⟩
  replace H : ((affine_Box_2.f (Q1)).bind fun t332 => ((affine_Box_3.f (mx (mx (mx t319 t321) t323) t325)).bind fun t333 => (if t330 ≥ t331 then (some (0, 0, 0, 0, 0)) else (if t332 ≥ t333 then (some (0, 0, 0, 0, 0)) else (some (t330, t332, wrap64 (t331 - t330), wrap64 (t333 - t332), 0)))))) = some (r1, r2, r3, r4, r5) := by first | (rw [G9] at H; exact H) | (simp only [G9] at H ⊢; exact H)
  (try rw [G9] at A3)
  (try rw [G9] at A5)
  (try rw [G9] at A7)
  (try rw [G9] at A22)
  (try rw [G9] at A23)
  (try rw [G9] at A24)
  (try rw [G9] at A25)
  (try rw [G9] at A29)
  (try rw [G9] at A33)
  have hji36_ : (if t325 < (L2) then t325 else (L2)) = Q1 := G9
  replace H := Option.bind_eq_some_iff.mp H
  obtain ⟨t332, A370, H⟩ := H
  try dsimp only at H
  have A37 := Aside0.mk A370
  clear A370
  obtain ⟨L3, G4⟩ : ∃ j_ : Int, (mx t319 t321) = j_ := ⟨_, rfl⟩
  replace H : ((affine_Box_3.f (mx (mx (L3) t323) t325)).bind fun t333 => (if t330 ≥ t331 then (some (0, 0, 0, 0, 0)) else (if t332 ≥ t333 then (some (0, 0, 0, 0, 0)) else (some (t330, t332, wrap64 (t331 - t330), wrap64 (t333 - t332), 0))))) = some (r1, r2, r3, r4, r5) := by first | (rw [G4] at H; exact H) | (simp only [G4] at H ⊢; exact H)
  (try rw [G4] at A3)
  (try rw [G4] at A5)
  (try rw [G4] at A7)
  (try rw [G4] at A22)
  (try rw [G4] at A23)
  (try rw [G4] at A24)
  (try rw [G4] at A25)
  (try rw [G4] at A29)
  (try rw [G4] at A33)
  (try rw [G4] at A37)
  have hji38_ : (if t319 < t321 then t321 else t319) = L3 := G4
  obtain ⟨L4, G5⟩ : ∃ j_ : Int, (mx (L3) t323) = j_ := ⟨_, rfl⟩
  replace H : ((affine_Box_3.f (mx (L4) t325)).bind fun t333 => (if t330 ≥ t331 then (some (0, 0, 0, 0, 0)) else (if t332 ≥ t333 then (some (0, 0, 0, 0, 0)) else (some (t330, t332, wrap64 (t331 - t330), wrap64 (t333 - t332), 0))))) = some (r1, r2, r3, r4, r5) := by first | (rw [G5] at H; exact H) | (simp only [G5] at H ⊢; exact H)
  (try rw [G5] at A3)
  (try rw [G5] at A5)
  (try rw [G5] at A7)
  (try rw [G5] at A22)
  (try rw [G5] at A23)
  (try rw [G5] at A24)
  (try rw [G5] at A25)
  (try rw [G5] at A29)
  (try rw [G5] at A33)
  (try rw [G5] at A37)
  have hji39_ : (if (L3) < t323 then t323 else (L3)) = L4 := G5
  obtain ⟨Q2, G6⟩ : ∃ j_ : Int, (mx (L4) t325) = j_ := ⟨_, rfl⟩
  replace H : ((affine_Box_3.f (Q2)).bind fun t333 => (if t330 ≥ t331 then (some (0, 0, 0, 0, 0)) else (if t332 ≥ t333 then (some (0, 0, 0, 0, 0)) else (some (t330, t332, wrap64 (t331 - t330), wrap64 (t333 - t332), 0))))) = some (r1, r2, r3, r4, r5) := by first | (rw [G6] at H; exact H) | (simp only [G6] at H ⊢; exact H)
  (try rw [G6] at A3)
  (try rw [G6] at A5)
  (try rw [G6] at A7)
  (try rw [G6] at A22)
  (try rw [G6] at A23)
  (try rw [G6] at A24)
  (try rw [G6] at A25)
  (try rw [G6] at A29)
  (try rw [G6] at A33)
  (try rw [G6] at A37)
  have hji40_ : (if (L4) < t325 then t325 else (L4)) = Q2 := G6
  replace H := Option.bind_eq_some_iff.mp H
  obtain ⟨t333, A410, H⟩ := H
  try dsimp only at H
  have A41 := Aside0.mk A410
  clear A410
  have HX_ := Aside0.mk H
  clear H
  go_enter Try.func42, Try.ntmps42
  try go_wp2_with (first | ((with_reducible refine gate_dst (N := 2) rfl ?_); refine box_event ?hg (N := 2) ?hd (cs := #[.int .i64 a0_0, .int .i64 a0_1, .int .i64 a0_2, .int .i64 a0_3, .int .i64 a0_4, .int .i64 a0_5]) (t := 32) ?hr ?_; (case hd => rfl); (case hg => rfl); (case hr => first | (go_simp; done) | (go_simp; rfl)); intro E7 hg w128 hbox hb; have Q7 := zg HB hg; have Q8 := zg HB hg; have n0_ := Aside0.mk (hbox); replace HB := zb HB hb; have E0 := n0_; clear n0_; clear hb hbox hg) | ((with_reducible refine gate_dst (N := 3) rfl ?_); refine box_event ?hg (N := 3) ?hd (cs := #[.int .i64 a1_0, .int .i64 a1_1, .int .i64 a1_2, .int .i64 a1_3]) (t := 27) ?hr ?_; (case hd => rfl); (case hg => rfl); (case hr => first | (go_simp; done) | (go_simp; rfl)); intro E8 hg w129 hbox hb; have Q9 := zg HB hg; have E0a := zg HB hg; have Y5 := zn E0 hg; have Y6 := zn' E0 hg; have n0_ := Aside0.mk (hbox); replace E0 := zk E0 hb; replace HB := zb HB hb; have E1 := n0_; clear n0_; clear hb hbox hg) | ((with_reducible refine gate_dst (N := 4) rfl ?_); refine box_event ?hg (N := 4) ?hd (cs := #[.int .i64 0, .int .i64 0, .int .i64 0, .int .i64 0]) (t := 27) ?hr ?_; (case hd => rfl); (case hg => rfl); (case hr => first | (go_simp; done) | (go_simp; rfl)); intro G3 hg w130 hbox hb; have E0b := zg HB hg; have Y4 := zg HB hg; have Y7 := zn E0 hg; have Y8 := zn' E0 hg; have Y9 := zn E1 hg; have Z0 := zn' E1 hg; have n0_ := Aside0.mk (hbox); replace E0 := zk E0 hb; replace E1 := zk E1 hb; replace HB := zb HB hb; have E2 := n0_; clear n0_; clear hb hbox hg; have E2q := Y5.out; have E2r := Y6.out; have E2s := Y7.out; have E2t := Y8.out; obtain ⟨E2u, E2v, E2w, E2x, E2y, E2z, E2A, E2B, E2C, E2D, E2E, E2F⟩ := zq6 E0) | ((with_reducible refine gate_callee (f := 46) rfl ?_); refine goesL_ (some 19) rfl rfl Try.func46 (by kernel_rfl) rfl #[.agg #[.int .i64 a0_0, .int .i64 a0_1, .int .i64 a0_2, .int .i64 a0_3, .int .i64 a0_4, .int .i64 a0_5]] rfl (by (try simp only [List.map_toArray, List.map_cons, List.map_nil]); first | done | rfl | (simp only [List.length_drop, List.length_take]; rfl)) ?_; (with_reducible refine (affine_Check.calls a0_0 a0_1 a0_2 a0_3 a0_4 a0_5 t315 _ A3.out).mono ?_); rintro e w134 ⟨rfl, hb⟩; refine ⟨_, rfl, ?_⟩; replace E0 := zk E0 hb; replace E1 := zk E1 hb; replace E2 := zk E2 hb; replace HB := zb HB hb; (try clear hb); have E2G := Y9.out; have E2H := Z0.out; obtain ⟨E2I, E2J, E2K, E2L, E2M, E2N, E2O, E2P⟩ := zq4 E1) | ((with_reducible refine gate_callee (f := 24) rfl ?_); refine goesL_ (some 25) rfl rfl Try.func24 (by kernel_rfl) rfl #[.agg #[.int .i64 a1_0, .int .i64 a1_1, .int .i64 a1_2, .int .i64 a1_3]] rfl (by (try simp only [List.map_toArray, List.map_cons, List.map_nil]); first | done | rfl | (simp only [List.length_drop, List.length_take]; rfl)) ?_; (with_reducible refine (rect_Valid.calls a1_0 a1_1 a1_2 a1_3 true _ A5.out).mono ?_); rintro e w137 ⟨rfl, hb⟩; refine ⟨_, rfl, ?_⟩; replace E0 := zk E0 hb; replace E1 := zk E1 hb; replace E2 := zk E2 hb; replace HB := zb HB hb; (try clear hb); obtain ⟨E2Q, E2R, E2S, E2T, E2U, E2V, E2W, E2X⟩ := zq4 E1) | ((with_reducible refine gate_callee (f := 12) rfl ?_); refine goesL_ (some 29) rfl rfl Try.func12 (by kernel_rfl) rfl #[.agg #[.int .i64 a1_0, .int .i64 a1_1, .int .i64 a1_2, .int .i64 a1_3]] rfl (by (try simp only [List.map_toArray, List.map_cons, List.map_nil]); first | done | rfl | (simp only [List.length_drop, List.length_take]; rfl)) ?_; (with_reducible refine (rect_Empty.calls a1_0 a1_1 a1_2 a1_3 false _ A7.out).mono ?_); rintro e w139 ⟨rfl, hb⟩; refine ⟨_, rfl, ?_⟩; replace E0 := zk E0 hb; replace E1 := zk E1 hb; replace E2 := zk E2 hb; replace HB := zb HB hb; (try clear hb)))
  replace E0 := zkd E0
  replace E1 := zkd E1
  replace E2 := zkd E2
  replace HB := zbd HB
  refine start_ (n := 44) (S := fun w' => w'.cell? ⟨E8, 0, none⟩ = some (.int .i64 a1_0) ∧ w'.cell? ⟨E8, 1, none⟩ = some (.int .i64 a1_1) ∧ w'.cell? ⟨E8, 2, none⟩ = some (.int .i64 a1_2) ∧ w'.cell? ⟨E8, 3, none⟩ = some (.int .i64 a1_3)) (ds := []) #[false, false, false, false, false, false, false, false, false, false, false, false, false, false, false, false, false, false, false, false, false, false, false, false, false, false, false, false, false, false, false, false, false, false, false, false, false, false, false, false, false, false, false, false] (by kernel_rfl) rfl rfl ⟨(blk_cell E1.out 0).trans rfl, (blk_cell E1.out 1).trans rfl, (blk_cell E1.out 2).trans rfl, (blk_cell E1.out 3).trans rfl⟩ (fun hHeld => ?_); refine with_tabW affine_Box.tab9 affine_Box.bits9 (fun HT_ HW_ => ?_)
  generalize w139.drew = w140 at E0 E1 E2 HB hHeld ⊢
  refine pure_ (i := 0) (N := some 32) (v := ?_) (a' := ?_) #[true, false, false, false, false, false, false, false, false, false, false, false, false, false, false, false, false, false, false, false, false, false, false, false, false, false, false, false, false, false, false, false, false, false, false, false, false, false, false, false, false, false, false, false] rfl rfl (any_of HT_.out (by kernel_rfl)) (fun _ _ _ h => h) (Or.inl ⟨by rfl, ?_⟩) ?_ ?_
  rotate_left
  · intro w'
    go_simp
    with_reducible rfl
  rotate_left
  · simp only [Act.put, List.setIfInBounds_toArray, List.set_cons_zero, List.set_cons_succ, i64_w, i32_w]
    rfl
  refine pure_ (i := 1) (N := some 33) (v := ?_) (a' := ?_) #[true, true, false, false, false, false, false, false, false, false, false, false, false, false, false, false, false, false, false, false, false, false, false, false, false, false, false, false, false, false, false, false, false, false, false, false, false, false, false, false, false, false, false, false] rfl rfl (any_of HT_.out (by kernel_rfl)) (fun _ _ _ h => h) (Or.inl ⟨by rfl, ?_⟩) ?_ ?_
  rotate_left
  · intro w'
    go_simp
    with_reducible rfl
  rotate_left
  · simp only [Act.put, List.setIfInBounds_toArray, List.set_cons_zero, List.set_cons_succ, i64_w, i32_w]
    rfl
  refine pure_ (i := 3) (N := some 35) (v := ?_) (a' := ?_) #[true, true, false, true, false, false, false, false, false, false, false, false, false, false, false, false, false, false, false, false, false, false, false, false, false, false, false, false, false, false, false, false, false, false, false, false, false, false, false, false, false, false, false, false] rfl rfl (any_of HT_.out (by kernel_rfl)) (fun _ _ _ h => h) (Or.inl ⟨by rfl, ?_⟩) ?_ ?_
  rotate_left
  · intro w'
    go_simp
    with_reducible rfl
  rotate_left
  · simp only [Act.put, List.setIfInBounds_toArray, List.set_cons_zero, List.set_cons_succ, i64_w, i32_w]
    rfl
  refine pure_ (i := 6) (N := some 38) (v := ?_) (a' := ?_) #[true, true, false, true, false, false, true, false, false, false, false, false, false, false, false, false, false, false, false, false, false, false, false, false, false, false, false, false, false, false, false, false, false, false, false, false, false, false, false, false, false, false, false, false] rfl rfl (any_of HT_.out (by kernel_rfl)) (fun _ _ _ h => h) (Or.inl ⟨by rfl, ?_⟩) ?_ ?_
  rotate_left
  · intro w'
    go_simp
    with_reducible rfl
  rotate_left
  · simp only [Act.put, List.setIfInBounds_toArray, List.set_cons_zero, List.set_cons_succ, i64_w, i32_w]
    rfl
  refine pure_ (i := 7) (N := some 39) (v := ?_) (a' := ?_) #[true, true, false, true, false, false, true, true, false, false, false, false, false, false, false, false, false, false, false, false, false, false, false, false, false, false, false, false, false, false, false, false, false, false, false, false, false, false, false, false, false, false, false, false] rfl rfl (any_of HT_.out (by kernel_rfl)) (fun _ _ _ h => h) (Or.inl ⟨by rfl, ?_⟩) ?_ ?_
  rotate_left
  · intro w'
    go_simp
    with_reducible rfl
  rotate_left
  · simp only [Act.put, List.setIfInBounds_toArray, List.set_cons_zero, List.set_cons_succ, i64_w, i32_w]
    rfl
  refine pure_ (i := 9) (N := some 41) (v := ?_) (a' := ?_) #[true, true, false, true, false, false, true, true, false, true, false, false, false, false, false, false, false, false, false, false, false, false, false, false, false, false, false, false, false, false, false, false, false, false, false, false, false, false, false, false, false, false, false, false] rfl rfl (any_of HT_.out (by kernel_rfl)) (fun _ _ _ h => h) (Or.inl ⟨by rfl, ?_⟩) ?_ ?_
  rotate_left
  · intro w'
    go_simp
    with_reducible rfl
  rotate_left
  · simp only [Act.put, List.setIfInBounds_toArray, List.set_cons_zero, List.set_cons_succ, i64_w, i32_w]
    rfl
  refine pure_ (i := 12) (N := some 44) (v := ?_) (a' := ?_) #[true, true, false, true, false, false, true, true, false, true, false, false, true, false, false, false, false, false, false, false, false, false, false, false, false, false, false, false, false, false, false, false, false, false, false, false, false, false, false, false, false, false, false, false] rfl rfl (any_of HT_.out (by kernel_rfl)) (fun _ _ _ h => h) (Or.inl ⟨by rfl, ?_⟩) ?_ ?_
  rotate_left
  · intro w'
    go_simp
    with_reducible rfl
  rotate_left
  · simp only [Act.put, List.setIfInBounds_toArray, List.set_cons_zero, List.set_cons_succ, i64_w, i32_w]
    rfl
  refine pure_ (i := 15) (N := some 47) (v := ?_) (a' := ?_) #[true, true, false, true, false, false, true, true, false, true, false, false, true, false, false, true, false, false, false, false, false, false, false, false, false, false, false, false, false, false, false, false, false, false, false, false, false, false, false, false, false, false, false, false] rfl rfl (any_of HT_.out (by kernel_rfl)) (fun _ _ _ h => h) (Or.inl ⟨by rfl, ?_⟩) ?_ ?_
  rotate_left
  · intro w'
    go_simp
    with_reducible rfl
  rotate_left
  · simp only [Act.put, List.setIfInBounds_toArray, List.set_cons_zero, List.set_cons_succ, i64_w, i32_w]
    rfl
  refine pure_ (i := 16) (N := some 48) (v := ?_) (a' := ?_) #[true, true, false, true, false, false, true, true, false, true, false, false, true, false, false, true, true, false, false, false, false, false, false, false, false, false, false, false, false, false, false, false, false, false, false, false, false, false, false, false, false, false, false, false] rfl rfl (any_of HT_.out (by kernel_rfl)) (fun _ _ _ h => h) (Or.inl ⟨by rfl, ?_⟩) ?_ ?_
  rotate_left
  · intro w'
    go_simp
    with_reducible rfl
  rotate_left
  · simp only [Act.put, List.setIfInBounds_toArray, List.set_cons_zero, List.set_cons_succ, i64_w, i32_w]
    rfl
  refine pure_ (i := 18) (N := some 50) (v := ?_) (a' := ?_) #[true, true, false, true, false, false, true, true, false, true, false, false, true, false, false, true, true, false, true, false, false, false, false, false, false, false, false, false, false, false, false, false, false, false, false, false, false, false, false, false, false, false, false, false] rfl rfl (any_of HT_.out (by kernel_rfl)) (fun _ _ _ h => h) (Or.inl ⟨by rfl, ?_⟩) ?_ ?_
  rotate_left
  · intro w'
    go_simp
    with_reducible rfl
  rotate_left
  · simp only [Act.put, List.setIfInBounds_toArray, List.set_cons_zero, List.set_cons_succ, i64_w, i32_w]
    rfl
  refine pure_ (i := 20) (N := some 52) (v := ?_) (a' := ?_) #[true, true, false, true, false, false, true, true, false, true, false, false, true, false, false, true, true, false, true, false, true, false, false, false, false, false, false, false, false, false, false, false, false, false, false, false, false, false, false, false, false, false, false, false] rfl rfl (any_of HT_.out (by kernel_rfl)) (fun _ _ _ h => h) (Or.inl ⟨by rfl, ?_⟩) ?_ ?_
  rotate_left
  · intro w'
    go_simp
    with_reducible rfl
  rotate_left
  · simp only [Act.put, List.setIfInBounds_toArray, List.set_cons_zero, List.set_cons_succ, i64_w, i32_w]
    rfl
  refine pure_ (i := 24) (N := some 56) (v := ?_) (a' := ?_) #[true, true, false, true, false, false, true, true, false, true, false, false, true, false, false, true, true, false, true, false, true, false, false, false, true, false, false, false, false, false, false, false, false, false, false, false, false, false, false, false, false, false, false, false] rfl rfl (any_of HT_.out (by kernel_rfl)) (fun _ _ _ h => h) (Or.inl ⟨by rfl, ?_⟩) ?_ ?_
  rotate_left
  · intro w'
    go_simp
    with_reducible rfl
  rotate_left
  · simp only [Act.put, List.setIfInBounds_toArray, List.set_cons_zero, List.set_cons_succ, i64_w, i32_w]
    rfl
  refine pure_ (i := 25) (N := some 57) (v := ?_) (a' := ?_) #[true, true, false, true, false, false, true, true, false, true, false, false, true, false, false, true, true, false, true, false, true, false, false, false, true, true, false, false, false, false, false, false, false, false, false, false, false, false, false, false, false, false, false, false] rfl rfl (any_of HT_.out (by kernel_rfl)) (fun _ _ _ h => h) (Or.inl ⟨by rfl, ?_⟩) ?_ ?_
  rotate_left
  · intro w'
    go_simp
    with_reducible rfl
  rotate_left
  · simp only [Act.put, List.setIfInBounds_toArray, List.set_cons_zero, List.set_cons_succ, i64_w, i32_w]
    rfl
  refine pure_ (i := 27) (N := some 59) (v := ?_) (a' := ?_) #[true, true, false, true, false, false, true, true, false, true, false, false, true, false, false, true, true, false, true, false, true, false, false, false, true, true, false, true, false, false, false, false, false, false, false, false, false, false, false, false, false, false, false, false] rfl rfl (any_of HT_.out (by kernel_rfl)) (fun _ _ _ h => h) (Or.inl ⟨by rfl, ?_⟩) ?_ ?_
  rotate_left
  · intro w'
    go_simp
    with_reducible rfl
  rotate_left
  · simp only [Act.put, List.setIfInBounds_toArray, List.set_cons_zero, List.set_cons_succ, i64_w, i32_w]
    rfl
  refine pure_ (i := 30) (N := some 62) (v := ?_) (a' := ?_) #[true, true, false, true, false, false, true, true, false, true, false, false, true, false, false, true, true, false, true, false, true, false, false, false, true, true, false, true, false, false, true, false, false, false, false, false, false, false, false, false, false, false, false, false] rfl rfl (any_of HT_.out (by kernel_rfl)) (fun _ _ _ h => h) (Or.inl ⟨by rfl, ?_⟩) ?_ ?_
  rotate_left
  · intro w'
    go_simp
    with_reducible rfl
  rotate_left
  · simp only [Act.put, List.setIfInBounds_toArray, List.set_cons_zero, List.set_cons_succ, i64_w, i32_w]
    rfl
  refine pure_ (i := 32) (N := some 64) (v := ?_) (a' := ?_) #[true, true, false, true, false, false, true, true, false, true, false, false, true, false, false, true, true, false, true, false, true, false, false, false, true, true, false, true, false, false, true, false, true, false, false, false, false, false, false, false, false, false, false, false] rfl rfl (any_of HT_.out (by kernel_rfl)) (fun _ _ _ h => h) (Or.inl ⟨by rfl, ?_⟩) ?_ ?_
  rotate_left
  · intro w'
    go_simp
    with_reducible rfl
  rotate_left
  · simp only [Act.put, List.setIfInBounds_toArray, List.set_cons_zero, List.set_cons_succ, i64_w, i32_w]
    rfl
  refine take_ (i := 2) (N := some 34) (v := ?_) (a' := ?_) #[true, true, true, true, false, false, true, true, false, true, false, false, true, false, false, true, true, false, true, false, true, false, false, false, true, true, false, true, false, false, true, false, true, false, false, false, false, false, false, false, false, false, false, false] rfl rfl (take_ofW HT_.out HW_.out (by kernel_rfl)) (fun _ _ _ h => h) (Or.inl ⟨by rfl, ?_⟩) hHeld ?_ ?_
  rotate_left
  · rintro w' ⟨s0, s1, s2, s3⟩
    go_simp
    with_reducible rfl
  rotate_left
  · simp only [Act.put, List.setIfInBounds_toArray, List.set_cons_zero, List.set_cons_succ, i64_w, i32_w]
    rfl
  refine take_ (i := 4) (N := some 36) (v := ?_) (a' := ?_) #[true, true, true, true, true, false, true, true, false, true, false, false, true, false, false, true, true, false, true, false, true, false, false, false, true, true, false, true, false, false, true, false, true, false, false, false, false, false, false, false, false, false, false, false] rfl rfl (take_ofW HT_.out HW_.out (by kernel_rfl)) (fun _ _ _ h => h) (Or.inl ⟨by rfl, ?_⟩) hHeld ?_ ?_
  rotate_left
  · rintro w' ⟨s0, s1, s2, s3⟩
    go_simp
    with_reducible rfl
  rotate_left
  · simp only [Act.put, List.setIfInBounds_toArray, List.set_cons_zero, List.set_cons_succ, i64_w, i32_w]
    rfl
  refine take_ (i := 8) (N := some 40) (v := ?_) (a' := ?_) #[true, true, true, true, true, false, true, true, true, true, false, false, true, false, false, true, true, false, true, false, true, false, false, false, true, true, false, true, false, false, true, false, true, false, false, false, false, false, false, false, false, false, false, false] rfl rfl (take_ofW HT_.out HW_.out (by kernel_rfl)) (fun _ _ _ h => h) (Or.inl ⟨by rfl, ?_⟩) hHeld ?_ ?_
  rotate_left
  · rintro w' ⟨s0, s1, s2, s3⟩
    go_simp
    with_reducible rfl
  rotate_left
  · simp only [Act.put, List.setIfInBounds_toArray, List.set_cons_zero, List.set_cons_succ, i64_w, i32_w]
    rfl
  refine take_ (i := 10) (N := some 42) (v := ?_) (a' := ?_) #[true, true, true, true, true, false, true, true, true, true, true, false, true, false, false, true, true, false, true, false, true, false, false, false, true, true, false, true, false, false, true, false, true, false, false, false, false, false, false, false, false, false, false, false] rfl rfl (take_ofW HT_.out HW_.out (by kernel_rfl)) (fun _ _ _ h => h) (Or.inl ⟨by rfl, ?_⟩) hHeld ?_ ?_
  rotate_left
  · rintro w' ⟨s0, s1, s2, s3⟩
    go_simp
    with_reducible rfl
  rotate_left
  · simp only [Act.put, List.setIfInBounds_toArray, List.set_cons_zero, List.set_cons_succ, i64_w, i32_w]
    rfl
  refine pure_ (i := 11) (N := some 43) (v := ?_) (a' := ?_) #[true, true, true, true, true, false, true, true, true, true, true, true, true, false, false, true, true, false, true, false, true, false, false, false, true, true, false, true, false, false, true, false, true, false, false, false, false, false, false, false, false, false, false, false] rfl rfl (any_of HT_.out (by kernel_rfl)) (fun _ _ _ h => h) (Or.inl ⟨by rfl, ?_⟩) ?_ ?_
  rotate_left
  · intro w'
    go_simp
    with_reducible rfl
  rotate_left
  · simp only [Act.put, List.setIfInBounds_toArray, List.set_cons_zero, List.set_cons_succ, i64_w, i32_w]
    rfl
  refine take_ (i := 13) (N := some 45) (v := ?_) (a' := ?_) #[true, true, true, true, true, false, true, true, true, true, true, true, true, true, false, true, true, false, true, false, true, false, false, false, true, true, false, true, false, false, true, false, true, false, false, false, false, false, false, false, false, false, false, false] rfl rfl (take_ofW HT_.out HW_.out (by kernel_rfl)) (fun _ _ _ h => h) (Or.inl ⟨by rfl, ?_⟩) hHeld ?_ ?_
  rotate_left
  · rintro w' ⟨s0, s1, s2, s3⟩
    go_simp
    with_reducible rfl
  rotate_left
  · simp only [Act.put, List.setIfInBounds_toArray, List.set_cons_zero, List.set_cons_succ, i64_w, i32_w]
    rfl
  refine take_ (i := 17) (N := some 49) (v := ?_) (a' := ?_) #[true, true, true, true, true, false, true, true, true, true, true, true, true, true, false, true, true, true, true, false, true, false, false, false, true, true, false, true, false, false, true, false, true, false, false, false, false, false, false, false, false, false, false, false] rfl rfl (take_ofW HT_.out HW_.out (by kernel_rfl)) (fun _ _ _ h => h) (Or.inl ⟨by rfl, ?_⟩) hHeld ?_ ?_
  rotate_left
  · rintro w' ⟨s0, s1, s2, s3⟩
    go_simp
    with_reducible rfl
  rotate_left
  · simp only [Act.put, List.setIfInBounds_toArray, List.set_cons_zero, List.set_cons_succ, i64_w, i32_w]
    rfl
  refine take_ (i := 19) (N := some 51) (v := ?_) (a' := ?_) #[true, true, true, true, true, false, true, true, true, true, true, true, true, true, false, true, true, true, true, true, true, false, false, false, true, true, false, true, false, false, true, false, true, false, false, false, false, false, false, false, false, false, false, false] rfl rfl (take_ofW HT_.out HW_.out (by kernel_rfl)) (fun _ _ _ h => h) (Or.inl ⟨by rfl, ?_⟩) hHeld ?_ ?_
  rotate_left
  · rintro w' ⟨s0, s1, s2, s3⟩
    go_simp
    with_reducible rfl
  rotate_left
  · simp only [Act.put, List.setIfInBounds_toArray, List.set_cons_zero, List.set_cons_succ, i64_w, i32_w]
    rfl
  refine take_ (i := 21) (N := some 53) (v := ?_) (a' := ?_) #[true, true, true, true, true, false, true, true, true, true, true, true, true, true, false, true, true, true, true, true, true, true, false, false, true, true, false, true, false, false, true, false, true, false, false, false, false, false, false, false, false, false, false, false] rfl rfl (take_ofW HT_.out HW_.out (by kernel_rfl)) (fun _ _ _ h => h) (Or.inl ⟨by rfl, ?_⟩) hHeld ?_ ?_
  rotate_left
  · rintro w' ⟨s0, s1, s2, s3⟩
    go_simp
    with_reducible rfl
  rotate_left
  · simp only [Act.put, List.setIfInBounds_toArray, List.set_cons_zero, List.set_cons_succ, i64_w, i32_w]
    rfl
  refine pure_ (i := 22) (N := some 54) (v := ?_) (a' := ?_) #[true, true, true, true, true, false, true, true, true, true, true, true, true, true, false, true, true, true, true, true, true, true, true, false, true, true, false, true, false, false, true, false, true, false, false, false, false, false, false, false, false, false, false, false] rfl rfl (any_of HT_.out (by kernel_rfl)) (fun _ _ _ h => h) (Or.inl ⟨by rfl, ?_⟩) ?_ ?_
  rotate_left
  · intro w'
    go_simp
    with_reducible rfl
  rotate_left
  · simp only [Act.put, List.setIfInBounds_toArray, List.set_cons_zero, List.set_cons_succ, i64_w, i32_w]
    rfl
  refine take_ (i := 26) (N := some 58) (v := ?_) (a' := ?_) #[true, true, true, true, true, false, true, true, true, true, true, true, true, true, false, true, true, true, true, true, true, true, true, false, true, true, true, true, false, false, true, false, true, false, false, false, false, false, false, false, false, false, false, false] rfl rfl (take_ofW HT_.out HW_.out (by kernel_rfl)) (fun _ _ _ h => h) (Or.inl ⟨by rfl, ?_⟩) hHeld ?_ ?_
  rotate_left
  · rintro w' ⟨s0, s1, s2, s3⟩
    go_simp
    with_reducible rfl
  rotate_left
  · simp only [Act.put, List.setIfInBounds_toArray, List.set_cons_zero, List.set_cons_succ, i64_w, i32_w]
    rfl
  refine take_ (i := 28) (N := some 60) (v := ?_) (a' := ?_) #[true, true, true, true, true, false, true, true, true, true, true, true, true, true, false, true, true, true, true, true, true, true, true, false, true, true, true, true, true, false, true, false, true, false, false, false, false, false, false, false, false, false, false, false] rfl rfl (take_ofW HT_.out HW_.out (by kernel_rfl)) (fun _ _ _ h => h) (Or.inl ⟨by rfl, ?_⟩) hHeld ?_ ?_
  rotate_left
  · rintro w' ⟨s0, s1, s2, s3⟩
    go_simp
    with_reducible rfl
  rotate_left
  · simp only [Act.put, List.setIfInBounds_toArray, List.set_cons_zero, List.set_cons_succ, i64_w, i32_w]
    rfl
  refine pure_ (i := 29) (N := some 61) (v := ?_) (a' := ?_) #[true, true, true, true, true, false, true, true, true, true, true, true, true, true, false, true, true, true, true, true, true, true, true, false, true, true, true, true, true, true, true, false, true, false, false, false, false, false, false, false, false, false, false, false] rfl rfl (any_of HT_.out (by kernel_rfl)) (fun _ _ _ h => h) (Or.inl ⟨by rfl, ?_⟩) ?_ ?_
  rotate_left
  · intro w'
    go_simp
    with_reducible rfl
  rotate_left
  · simp only [Act.put, List.setIfInBounds_toArray, List.set_cons_zero, List.set_cons_succ, i64_w, i32_w]
    rfl
  refine take_ (i := 31) (N := some 63) (v := ?_) (a' := ?_) #[true, true, true, true, true, false, true, true, true, true, true, true, true, true, false, true, true, true, true, true, true, true, true, false, true, true, true, true, true, true, true, true, true, false, false, false, false, false, false, false, false, false, false, false] rfl rfl (take_ofW HT_.out HW_.out (by kernel_rfl)) (fun _ _ _ h => h) (Or.inl ⟨by rfl, ?_⟩) hHeld ?_ ?_
  rotate_left
  · rintro w' ⟨s0, s1, s2, s3⟩
    go_simp
    with_reducible rfl
  rotate_left
  · simp only [Act.put, List.setIfInBounds_toArray, List.set_cons_zero, List.set_cons_succ, i64_w, i32_w]
    rfl
  refine take_ (i := 33) (N := some 65) (v := ?_) (a' := ?_) #[true, true, true, true, true, false, true, true, true, true, true, true, true, true, false, true, true, true, true, true, true, true, true, false, true, true, true, true, true, true, true, true, true, true, false, false, false, false, false, false, false, false, false, false] rfl rfl (take_ofW HT_.out HW_.out (by kernel_rfl)) (fun _ _ _ h => h) (Or.inl ⟨by rfl, ?_⟩) hHeld ?_ ?_
  rotate_left
  · rintro w' ⟨s0, s1, s2, s3⟩
    go_simp
    with_reducible rfl
  rotate_left
  · simp only [Act.put, List.setIfInBounds_toArray, List.set_cons_zero, List.set_cons_succ, i64_w, i32_w]
    rfl
  refine pure_ (i := 34) (N := some 66) (v := ?_) (a' := ?_) #[true, true, true, true, true, false, true, true, true, true, true, true, true, true, false, true, true, true, true, true, true, true, true, false, true, true, true, true, true, true, true, true, true, true, true, false, false, false, false, false, false, false, false, false] rfl rfl (any_of HT_.out (by kernel_rfl)) (fun _ _ _ h => h) (Or.inl ⟨by rfl, ?_⟩) ?_ ?_
  rotate_left
  · intro w'
    go_simp
    with_reducible rfl
  rotate_left
  · simp only [Act.put, List.setIfInBounds_toArray, List.set_cons_zero, List.set_cons_succ, i64_w, i32_w]
    rfl
  refine affine_Box.go9 HT_.out (fun c p q s t g1 g2 g3 g4 => ({ tmps := #[.agg #[.int .i64 a0_0, .int .i64 a0_1, .int .i64 a0_2, .int .i64 a0_3, .int .i64 a0_4, .int .i64 a0_5], .agg #[.int .i64 a1_0, .int .i64 a1_1, .int .i64 a1_2, .int .i64 a1_3], .pointer (some ⟨E7, 0, none⟩), .pointer (some ⟨E8, 0, none⟩), .pointer (some ⟨G3, 0, none⟩), .int .i64 0, .int .i64 t315, .func (.func 67) #[] #[.pointer (some ⟨E7, 0, none⟩)], (bif p then .pointer (some ⟨g1, 0, none⟩) else undef), (bif q then .pointer (some ⟨g2, 0, none⟩) else undef), (bif s then .pointer (some ⟨g3, 0, none⟩) else undef), (bif t then .pointer (some ⟨g4, 0, none⟩) else undef), undef, undef, undef, undef, undef, undef, .agg #[.int .i64 a0_0, .int .i64 a0_1, .int .i64 a0_2, .int .i64 a0_3, .int .i64 a0_4, .int .i64 a0_5], .int .i64 t315, .int .i64 t315, .bool false, undef, undef, .agg #[.int .i64 a1_0, .int .i64 a1_1, .int .i64 a1_2, .int .i64 a1_3], .bool true, .bool false, undef, .agg #[.int .i64 a1_0, .int .i64 a1_1, .int .i64 a1_2, .int .i64 a1_3], .bool false, undef, .func (.func 67) #[] #[.pointer (some ⟨E7, 0, none⟩)], .func (.func 67) #[] #[.pointer (some ⟨E7, 0, none⟩)], .pointer (some ⟨E8, 0, none⟩), .int .i64 a1_0, .pointer (some ⟨E8, 1, none⟩), .int .i64 a1_1, (bif decide (1 ≤ c) then .agg #[.int .i64 t318, .int .i64 t319] else undef), .func (.func 67) #[] #[.pointer (some ⟨E7, 0, none⟩)], .pointer (some ⟨E8, 0, none⟩), .int .i64 a1_0, .pointer (some ⟨E8, 2, none⟩), .int .i64 a1_2, .int .i64 (wrap64 (a1_0 + a1_2)), .pointer (some ⟨E8, 1, none⟩), .int .i64 a1_1, (bif decide (2 ≤ c) then .agg #[.int .i64 t320, .int .i64 t321] else undef), .func (.func 67) #[] #[.pointer (some ⟨E7, 0, none⟩)], .pointer (some ⟨E8, 0, none⟩), .int .i64 a1_0, .pointer (some ⟨E8, 1, none⟩), .int .i64 a1_1, .pointer (some ⟨E8, 3, none⟩), .int .i64 a1_3, .int .i64 (wrap64 (a1_1 + a1_3)), (bif decide (3 ≤ c) then .agg #[.int .i64 t322, .int .i64 t323] else undef), .func (.func 67) #[] #[.pointer (some ⟨E7, 0, none⟩)], .pointer (some ⟨E8, 0, none⟩), .int .i64 a1_0, .pointer (some ⟨E8, 2, none⟩), .int .i64 a1_2, .int .i64 (wrap64 (a1_0 + a1_2)), .pointer (some ⟨E8, 1, none⟩), .int .i64 a1_1, .pointer (some ⟨E8, 3, none⟩), .int .i64 a1_3, .int .i64 (wrap64 (a1_1 + a1_3)), (bif decide (4 ≤ c) then .agg #[.int .i64 t324, .int .i64 t325] else undef), undef, undef, undef, undef, undef, undef, undef, undef, undef, undef, undef, undef, undef, undef, undef, undef, undef, undef, undef, undef, undef, undef, undef, undef, undef, undef, undef, undef, undef, undef, undef, undef, undef, undef, undef, undef, undef, undef, undef, undef, undef, undef, undef, undef, undef, undef, undef, undef, undef, undef, undef, undef, undef, undef, undef, undef, undef, undef, undef, undef, undef, undef], defers := [] } : Act)) (affine_Box.FF w [(E7, .cells #[.int .i64 a0_0, .int .i64 a0_1, .int .i64 a0_2, .int .i64 a0_3, .int .i64 a0_4, .int .i64 a0_5] 32 (0, 0)), (E8, .cells #[.int .i64 a1_0, .int .i64 a1_1, .int .i64 a1_2, .int .i64 a1_3] 27 (0, 0)), (G3, .cells #[.int .i64 0, .int .i64 0, .int .i64 0, .int .i64 0] 27 (0, 0))] (.cells #[.int .i64 0, .int .i64 0] 54 (0, 0))) ?hS ?h5 ?h14 ?h23 ?h35 ?h36 ?h37 ?h38 ?h39 ?hend 8 0 false false false false 0 0 0 0 _ rfl (by decide) ?hF
  case hF =>
   refine ⟨HB.out, fun x hx => ?_, fun h => absurd h (by decide), fun h => absurd h (by decide), fun h => absurd h (by decide), fun h => absurd h (by decide), fun h => absurd h (by decide), fun h => absurd h (by decide), fun h => absurd h (by decide), fun h => absurd h (by decide), fun h => absurd h (by decide), fun h => absurd h (by decide)⟩
   simp only [List.mem_cons, List.not_mem_nil, or_false] at hx
   rcases hx with rfl | rfl | rfl
   · exact E0.out
   · exact E1.out
   · exact E2.out
  case hS =>
   intro p q s t g1 g2 g3 g4 w' hF
   have h1 : w'.heap[E8]? = some (.cells #[.int .i64 a1_0, .int .i64 a1_1, .int .i64 a1_2, .int .i64 a1_3] 27 (0, 0)) := hF.2.1 (E8, .cells #[.int .i64 a1_0, .int .i64 a1_1, .int .i64 a1_2, .int .i64 a1_3] 27 (0, 0)) (by simp)
   exact ⟨(blk_cell h1 0).trans rfl, (blk_cell h1 1).trans rfl, (blk_cell h1 2).trans rfl, (blk_cell h1 3).trans rfl⟩
  case h5 =>
   intro p q s t g1 g2 g3 g4 w' hF
   have e312 : w'.heap[E7]? = some (.cells #[.int .i64 a0_0, .int .i64 a0_1, .int .i64 a0_2, .int .i64 a0_3, .int .i64 a0_4, .int .i64 a0_5] 32 (0, 0)) := hF.2.1 (E7, .cells #[.int .i64 a0_0, .int .i64 a0_1, .int .i64 a0_2, .int .i64 a0_3, .int .i64 a0_4, .int .i64 a0_5] 32 (0, 0)) (by simp)
   refine wpOp_step rfl (fun K hK => ?_)
   refine goesT_ (t := 32) Try.func67 (by kernel_rfl) rfl #[.pointer (some ⟨E7, 0, none⟩)] #[.int .i64 a1_0, .int .i64 a1_1, .pointer (some ⟨E7, 0, none⟩)] (by rfl) rfl rfl (by first | rfl | (go_simp; done) | (go_simp; rfl)) (by (try simp only [List.map_toArray, List.map_cons, List.map_nil]); first | done | rfl | (go_simp; done) | (go_simp; rfl)) ?_
   with_reducible refine (affine_Box_1.calls k a1_0 a1_1 E7 a0_0 a0_1 a0_2 a0_3 a0_4 a0_5 t318 t319 _ ?side1 A22.out).mono ?_
   (case side1 => exact e312)
   rintro e w1 ⟨rfl, hb⟩
   exact ⟨_, rfl, hK _ _ ⟨rfl, hF.call hb⟩⟩
  case h14 =>
   intro p q s t g1 g2 g3 g4 w' hF
   have e312 : w'.heap[E7]? = some (.cells #[.int .i64 a0_0, .int .i64 a0_1, .int .i64 a0_2, .int .i64 a0_3, .int .i64 a0_4, .int .i64 a0_5] 32 (0, 0)) := hF.2.1 (E7, .cells #[.int .i64 a0_0, .int .i64 a0_1, .int .i64 a0_2, .int .i64 a0_3, .int .i64 a0_4, .int .i64 a0_5] 32 (0, 0)) (by simp)
   refine wpOp_step rfl (fun K hK => ?_)
   refine goesT_ (t := 38) Try.func67 (by kernel_rfl) rfl #[.pointer (some ⟨E7, 0, none⟩)] #[.int .i64 (wrap64 (a1_0 + a1_2)), .int .i64 a1_1, .pointer (some ⟨E7, 0, none⟩)] (by rfl) rfl rfl (by first | rfl | (go_simp; done) | (go_simp; rfl)) (by (try simp only [List.map_toArray, List.map_cons, List.map_nil]); first | done | rfl | (go_simp; done) | (go_simp; rfl)) ?_
   with_reducible refine (affine_Box_1.calls k (wrap64 (a1_0 + a1_2)) a1_1 E7 a0_0 a0_1 a0_2 a0_3 a0_4 a0_5 t320 t321 _ ?side1 A23.out).mono ?_
   (case side1 => exact e312)
   rintro e w1 ⟨rfl, hb⟩
   exact ⟨_, rfl, hK _ _ ⟨rfl, hF.call hb⟩⟩
  case h23 =>
   intro p q s t g1 g2 g3 g4 w' hF
   have e312 : w'.heap[E7]? = some (.cells #[.int .i64 a0_0, .int .i64 a0_1, .int .i64 a0_2, .int .i64 a0_3, .int .i64 a0_4, .int .i64 a0_5] 32 (0, 0)) := hF.2.1 (E7, .cells #[.int .i64 a0_0, .int .i64 a0_1, .int .i64 a0_2, .int .i64 a0_3, .int .i64 a0_4, .int .i64 a0_5] 32 (0, 0)) (by simp)
   refine wpOp_step rfl (fun K hK => ?_)
   refine goesT_ (t := 47) Try.func67 (by kernel_rfl) rfl #[.pointer (some ⟨E7, 0, none⟩)] #[.int .i64 a1_0, .int .i64 (wrap64 (a1_1 + a1_3)), .pointer (some ⟨E7, 0, none⟩)] (by rfl) rfl rfl (by first | rfl | (go_simp; done) | (go_simp; rfl)) (by (try simp only [List.map_toArray, List.map_cons, List.map_nil]); first | done | rfl | (go_simp; done) | (go_simp; rfl)) ?_
   with_reducible refine (affine_Box_1.calls k a1_0 (wrap64 (a1_1 + a1_3)) E7 a0_0 a0_1 a0_2 a0_3 a0_4 a0_5 t322 t323 _ ?side1 A24.out).mono ?_
   (case side1 => exact e312)
   rintro e w1 ⟨rfl, hb⟩
   exact ⟨_, rfl, hK _ _ ⟨rfl, hF.call hb⟩⟩
  case h35 =>
   intro p q s t g1 g2 g3 g4 w' hF
   have e312 : w'.heap[E7]? = some (.cells #[.int .i64 a0_0, .int .i64 a0_1, .int .i64 a0_2, .int .i64 a0_3, .int .i64 a0_4, .int .i64 a0_5] 32 (0, 0)) := hF.2.1 (E7, .cells #[.int .i64 a0_0, .int .i64 a0_1, .int .i64 a0_2, .int .i64 a0_3, .int .i64 a0_4, .int .i64 a0_5] 32 (0, 0)) (by simp)
   refine wpOp_step rfl (fun K hK => ?_)
   refine goesT_ (t := 56) Try.func67 (by kernel_rfl) rfl #[.pointer (some ⟨E7, 0, none⟩)] #[.int .i64 (wrap64 (a1_0 + a1_2)), .int .i64 (wrap64 (a1_1 + a1_3)), .pointer (some ⟨E7, 0, none⟩)] (by rfl) rfl rfl (by first | rfl | (go_simp; done) | (go_simp; rfl)) (by (try simp only [List.map_toArray, List.map_cons, List.map_nil]); first | done | rfl | (go_simp; done) | (go_simp; rfl)) ?_
   with_reducible refine (affine_Box_1.calls k (wrap64 (a1_0 + a1_2)) (wrap64 (a1_1 + a1_3)) E7 a0_0 a0_1 a0_2 a0_3 a0_4 a0_5 t324 t325 _ ?side1 A25.out).mono ?_
   (case side1 => exact e312)
   rintro e w1 ⟨rfl, hb⟩
   exact ⟨_, rfl, hK _ _ ⟨rfl, hF.call hb⟩⟩
  case h36 =>
   intro c q s t g1 g2 g3 g4 w' hF
   refine wpOp_step rfl (fun K hK => ?_)
   refine box_step ?hg (N := 8) ?hd (cs := #[.int .i64 0, .int .i64 0]) (t := 54) ?hr ?_; (case hd => rfl); (case hg => rfl); (case hr => first | (go_simp; done) | (go_simp; rfl))
   intro g hg w1 hbox hb
   exact hK _ _ ⟨g, rfl, hF.addp hg hbox hb⟩
  case h37 =>
   intro c p s t g1 g2 g3 g4 w' hF
   refine wpOp_step rfl (fun K hK => ?_)
   refine box_step ?hg (N := 9) ?hd (cs := #[.int .i64 0, .int .i64 0]) (t := 54) ?hr ?_; (case hd => rfl); (case hg => rfl); (case hr => first | (go_simp; done) | (go_simp; rfl))
   intro g hg w1 hbox hb
   exact hK _ _ ⟨g, rfl, hF.addq hg hbox hb⟩
  case h38 =>
   intro c p q t g1 g2 g3 g4 w' hF
   refine wpOp_step rfl (fun K hK => ?_)
   refine box_step ?hg (N := 10) ?hd (cs := #[.int .i64 0, .int .i64 0]) (t := 54) ?hr ?_; (case hd => rfl); (case hg => rfl); (case hr => first | (go_simp; done) | (go_simp; rfl))
   intro g hg w1 hbox hb
   exact hK _ _ ⟨g, rfl, hF.adds hg hbox hb⟩
  case h39 =>
   intro c p q s g1 g2 g3 g4 w' hF
   refine wpOp_step rfl (fun K hK => ?_)
   refine box_step ?hg (N := 11) ?hd (cs := #[.int .i64 0, .int .i64 0]) (t := 54) ?hr ?_; (case hd => rfl); (case hg => rfl); (case hr => first | (go_simp; done) | (go_simp; rfl))
   intro g hg w1 hbox hb
   exact hK _ _ ⟨g, rfl, hF.addt hg hbox hb⟩
  intro E3 E4 E5 E6 w149 hFF
  obtain ⟨h0_, h1_, h2_, h3_, h4_, h5_, h6_, h7_, h8_, h9_, h10_, h11_, h12_, h13_, h14_, h15_, h16_, h17_, h18_, h19_, h20_, h21_, h22_, h23_, h24_, h25_, h26_, h27_, h28_, h29_, h30_, h31_, h32_, h33_, h34_, h35_, h36_, h37_, h38_, h39_, h40_, h41_, h42_, h43_, h44_, h45_, h46_, h47_, h48_, h49_, h50_, h51_⟩ := affine_Box.FF.out hFF
  have hS_ : w149.cell? ⟨E8, 0, none⟩ = some (.int .i64 a1_0) ∧ w149.cell? ⟨E8, 1, none⟩ = some (.int .i64 a1_1) ∧ w149.cell? ⟨E8, 2, none⟩ = some (.int .i64 a1_2) ∧ w149.cell? ⟨E8, 3, none⟩ = some (.int .i64 a1_3) := ⟨(blk_cell h1_ 0).trans rfl, (blk_cell h1_ 1).trans rfl, (blk_cell h1_ 2).trans rfl, (blk_cell h1_ 3).trans rfl⟩
  have n0_ : Aside0 (w149.heap[E7]? = some (.cells #[.int .i64 a0_0, .int .i64 a0_1, .int .i64 a0_2, .int .i64 a0_3, .int .i64 a0_4, .int .i64 a0_5] 32 (0, 0))) := ⟨h0_⟩
  have n1_ : Aside0 (w149.heap[E8]? = some (.cells #[.int .i64 a1_0, .int .i64 a1_1, .int .i64 a1_2, .int .i64 a1_3] 27 (0, 0))) := ⟨h1_⟩
  have n2_ : Aside0 (w149.heap[G3]? = some (.cells #[.int .i64 0, .int .i64 0, .int .i64 0, .int .i64 0] 27 (0, 0))) := ⟨h2_⟩
  have n3_ : Aside0 (w149.heap[E3]? = some (.cells #[.int .i64 0, .int .i64 0] 54 (0, 0))) := ⟨h3_⟩
  have n4_ : Aside0 (w149.heap[E4]? = some (.cells #[.int .i64 0, .int .i64 0] 54 (0, 0))) := ⟨h4_⟩
  have n5_ : Aside0 (w149.heap[E5]? = some (.cells #[.int .i64 0, .int .i64 0] 54 (0, 0))) := ⟨h5_⟩
  have n6_ : Aside0 (w149.heap[E6]? = some (.cells #[.int .i64 0, .int .i64 0] 54 (0, 0))) := ⟨h6_⟩
  have n7_ : Aside0 (w.heap.size ≤ E3) := ⟨h7_⟩
  have n8_ : Aside0 (w.heap.size ≤ E3) := ⟨h8_⟩
  have n9_ : Aside0 (E7 ≠ E3) := ⟨h9_⟩
  have n10_ : Aside0 (E3 ≠ E7) := ⟨h10_⟩
  have n11_ : Aside0 (E8 ≠ E3) := ⟨h11_⟩
  have n12_ : Aside0 (E3 ≠ E8) := ⟨h12_⟩
  have n13_ : Aside0 (G3 ≠ E3) := ⟨h13_⟩
  have n14_ : Aside0 (E3 ≠ G3) := ⟨h14_⟩
  have n15_ : Aside0 (E4 ≠ E3) := ⟨h15_⟩
  have n16_ : Aside0 (E3 ≠ E4) := ⟨h16_⟩
  have n17_ : Aside0 (E5 ≠ E3) := ⟨h17_⟩
  have n18_ : Aside0 (E3 ≠ E5) := ⟨h18_⟩
  have n19_ : Aside0 (E6 ≠ E3) := ⟨h19_⟩
  have n20_ : Aside0 (E3 ≠ E6) := ⟨h20_⟩
  have n21_ : Aside0 (w.heap.size ≤ E4) := ⟨h21_⟩
  have n22_ : Aside0 (w.heap.size ≤ E4) := ⟨h22_⟩
  have n23_ : Aside0 (E7 ≠ E4) := ⟨h23_⟩
  have n24_ : Aside0 (E4 ≠ E7) := ⟨h24_⟩
  have n25_ : Aside0 (E8 ≠ E4) := ⟨h25_⟩
  have n26_ : Aside0 (E4 ≠ E8) := ⟨h26_⟩
  have n27_ : Aside0 (G3 ≠ E4) := ⟨h27_⟩
  have n28_ : Aside0 (E4 ≠ G3) := ⟨h28_⟩
  have n29_ : Aside0 (E5 ≠ E4) := ⟨h29_⟩
  have n30_ : Aside0 (E4 ≠ E5) := ⟨h30_⟩
  have n31_ : Aside0 (E6 ≠ E4) := ⟨h31_⟩
  have n32_ : Aside0 (E4 ≠ E6) := ⟨h32_⟩
  have n33_ : Aside0 (w.heap.size ≤ E5) := ⟨h33_⟩
  have n34_ : Aside0 (w.heap.size ≤ E5) := ⟨h34_⟩
  have n35_ : Aside0 (E7 ≠ E5) := ⟨h35_⟩
  have n36_ : Aside0 (E5 ≠ E7) := ⟨h36_⟩
  have n37_ : Aside0 (E8 ≠ E5) := ⟨h37_⟩
  have n38_ : Aside0 (E5 ≠ E8) := ⟨h38_⟩
  have n39_ : Aside0 (G3 ≠ E5) := ⟨h39_⟩
  have n40_ : Aside0 (E5 ≠ G3) := ⟨h40_⟩
  have n41_ : Aside0 (E6 ≠ E5) := ⟨h41_⟩
  have n42_ : Aside0 (E5 ≠ E6) := ⟨h42_⟩
  have n43_ : Aside0 (w.heap.size ≤ E6) := ⟨h43_⟩
  have n44_ : Aside0 (w.heap.size ≤ E6) := ⟨h44_⟩
  have n45_ : Aside0 (E7 ≠ E6) := ⟨h45_⟩
  have n46_ : Aside0 (E6 ≠ E7) := ⟨h46_⟩
  have n47_ : Aside0 (E8 ≠ E6) := ⟨h47_⟩
  have n48_ : Aside0 (E6 ≠ E8) := ⟨h48_⟩
  have n49_ : Aside0 (G3 ≠ E6) := ⟨h49_⟩
  have n50_ : Aside0 (E6 ≠ G3) := ⟨h50_⟩
  have n51_ : Aside0 (Below w.heap.size w w149) := ⟨h51_⟩
  clear E0
  clear E1
  clear E2
  clear HB
  clear h0_ h1_ h2_ h3_ h4_ h5_ h6_ h7_ h8_ h9_ h10_ h11_ h12_ h13_ h14_ h15_ h16_ h17_ h18_ h19_ h20_ h21_ h22_ h23_ h24_ h25_ h26_ h27_ h28_ h29_ h30_ h31_ h32_ h33_ h34_ h35_ h36_ h37_ h38_ h39_ h40_ h41_ h42_ h43_ h44_ h45_ h46_ h47_ h48_ h49_ h50_ h51_
  have E0 := n0_
  have E1 := n1_
  have E2 := n2_
  have E9 := n3_
  have G0 := n4_
  have G1 := n5_
  have G2 := n6_
  have E2Y := n7_
  have E0m := n8_
  have Q3 := n9_
  have E0c := n10_
  have V6 := n11_
  have E0d := n12_
  have Z1 := n13_
  have L5 := n14_
  have Z5 := n15_
  have Z6 := n16_
  have Z7 := n17_
  have Z8 := n18_
  have Z9 := n19_
  have J0 := n20_
  have E2Z := n21_
  have E0n := n22_
  have Q4 := n23_
  have E0e := n24_
  have V7 := n25_
  have E0f := n26_
  have Z2 := n27_
  have L6 := n28_
  have J1 := n29_
  have J2 := n30_
  have J3 := n31_
  have J4 := n32_
  have E3a := n33_
  have E0o := n34_
  have Q5 := n35_
  have E0g := n36_
  have V8 := n37_
  have E0h := n38_
  have Z3 := n39_
  have L7 := n40_
  have J5 := n41_
  have J6 := n42_
  have E3b := n43_
  have E0p := n44_
  have Q6 := n45_
  have E0i := n46_
  have V9 := n47_
  have E0j := n48_
  have Z4 := n49_
  have L8 := n50_
  have HB := n51_
  clear n0_ n1_ n2_ n3_ n4_ n5_ n6_ n7_ n8_ n9_ n10_ n11_ n12_ n13_ n14_ n15_ n16_ n17_ n18_ n19_ n20_ n21_ n22_ n23_ n24_ n25_ n26_ n27_ n28_ n29_ n30_ n31_ n32_ n33_ n34_ n35_ n36_ n37_ n38_ n39_ n40_ n41_ n42_ n43_ n44_ n45_ n46_ n47_ n48_ n49_ n50_ n51_
  have hHeld : w149.cell? ⟨E8, 0, none⟩ = some (.int .i64 a1_0) ∧ w149.cell? ⟨E8, 1, none⟩ = some (.int .i64 a1_1) ∧ w149.cell? ⟨E8, 2, none⟩ = some (.int .i64 a1_2) ∧ w149.cell? ⟨E8, 3, none⟩ = some (.int .i64 a1_3) := hS_
  refine norm_ (a' := ?_) ?_ ?_
  rotate_left
  · simp only [cond_true, decide_eq_true (show 1 ≤ 4 by decide), decide_eq_true (show 2 ≤ 4 by decide), decide_eq_true (show 3 ≤ 4 by decide), decide_eq_true (show 4 ≤ 4 by decide)]
    rfl
  refine one_ (i := 40) (N := none) #[true, true, true, true, true, true, true, true, true, true, true, true, true, true, true, true, true, true, true, true, true, true, true, true, true, true, true, true, true, true, true, true, true, true, true, true, true, true, true, true, true, false, false, false] rfl rfl (one_of HT_.out (by kernel_rfl)) (by decide) (fun K hK => ?_)
  have hs150 : w149.cell? ⟨E3, 0, none⟩ = some (.int .i64 0) := (blk_cell E9.out 0).trans rfl
  have hfs150 := blk_frozen E9.out 0
  have E3c := Q3.out
  have E3d := V6.out
  have E3e := Z1.out
  have E3f := Z5.out
  have E3g := Z7.out
  have E3h := Z9.out
  have E3i := E0c.out
  have E3j := E0d.out
  have E3k := L5.out
  have E3l := Z6.out
  have E3m := Z8.out
  have E3n := J0.out
  have hs151 : w149.cell? ⟨E3, 1, none⟩ = some (.int .i64 0) := (blk_cell E9.out 1).trans rfl
  have hfs151 := blk_frozen E9.out 1
  have E3o := Q3.out
  have E3p := V6.out
  have E3q := Z1.out
  have E3r := Z5.out
  have E3s := Z7.out
  have E3t := Z9.out
  have E3u := E0c.out
  have E3v := E0d.out
  have E3w := L5.out
  have E3x := Z6.out
  have E3y := Z8.out
  have E3z := J0.out
  refine skip_ (w1 := ?_) (by rfl) rfl ?_ ?_
  rotate_left
  · go_simp
    rfl
  refine hK.out _ _ ⟨((cell_far (p := ⟨E3, _, none⟩) V6.out _).trans (((cell_far (p := ⟨E3, _, none⟩) V6.out _).trans (hHeld.1)))), ((cell_far (p := ⟨E3, _, none⟩) V6.out _).trans (((cell_far (p := ⟨E3, _, none⟩) V6.out _).trans (hHeld.2.1)))), ((cell_far (p := ⟨E3, _, none⟩) V6.out _).trans (((cell_far (p := ⟨E3, _, none⟩) V6.out _).trans (hHeld.2.2.1)))), ((cell_far (p := ⟨E3, _, none⟩) V6.out _).trans (((cell_far (p := ⟨E3, _, none⟩) V6.out _).trans (hHeld.2.2.2))))⟩ (fun hHeld => ?_)
  clear hK K
  refine one_ (i := 41) (N := none) #[true, true, true, true, true, true, true, true, true, true, true, true, true, true, true, true, true, true, true, true, true, true, true, true, true, true, true, true, true, true, true, true, true, true, true, true, true, true, true, true, true, true, false, false] rfl rfl (one_of HT_.out (by kernel_rfl)) (by decide) (fun K hK => ?_)
  have hs152 : w149.cell? ⟨E4, 0, none⟩ = some (.int .i64 0) := (blk_cell G0.out 0).trans rfl
  have hfs152 := blk_frozen G0.out 0
  have E3A := Q4.out
  have E3B := V7.out
  have E3C := Z2.out
  have E3D := Z6.out
  have E3E := J1.out
  have E3F := J3.out
  have E3G := E0e.out
  have E3H := E0f.out
  have E3I := L6.out
  have E3J := Z5.out
  have E3K := J2.out
  have E3L := J4.out
  have hs153 : w149.cell? ⟨E4, 1, none⟩ = some (.int .i64 0) := (blk_cell G0.out 1).trans rfl
  have hfs153 := blk_frozen G0.out 1
  have E3M := Q4.out
  have E3N := V7.out
  have E3O := Z2.out
  have E3P := Z6.out
  have E3Q := J1.out
  have E3R := J3.out
  have E3S := E0e.out
  have E3T := E0f.out
  have E3U := L6.out
  have E3V := Z5.out
  have E3W := J2.out
  have E3X := J4.out
  refine skip_ (w1 := ?_) (by rfl) rfl ?_ ?_
  rotate_left
  · go_simp
    rfl
  refine hK.out _ _ ⟨((cell_far (p := ⟨E4, _, none⟩) V7.out _).trans (((cell_far (p := ⟨E4, _, none⟩) V7.out _).trans (hHeld.1)))), ((cell_far (p := ⟨E4, _, none⟩) V7.out _).trans (((cell_far (p := ⟨E4, _, none⟩) V7.out _).trans (hHeld.2.1)))), ((cell_far (p := ⟨E4, _, none⟩) V7.out _).trans (((cell_far (p := ⟨E4, _, none⟩) V7.out _).trans (hHeld.2.2.1)))), ((cell_far (p := ⟨E4, _, none⟩) V7.out _).trans (((cell_far (p := ⟨E4, _, none⟩) V7.out _).trans (hHeld.2.2.2))))⟩ (fun hHeld => ?_)
  clear hK K
  refine one_ (i := 42) (N := none) #[true, true, true, true, true, true, true, true, true, true, true, true, true, true, true, true, true, true, true, true, true, true, true, true, true, true, true, true, true, true, true, true, true, true, true, true, true, true, true, true, true, true, true, false] rfl rfl (one_of HT_.out (by kernel_rfl)) (by decide) (fun K hK => ?_)
  have hs154 : w149.cell? ⟨E5, 0, none⟩ = some (.int .i64 0) := (blk_cell G1.out 0).trans rfl
  have hfs154 := blk_frozen G1.out 0
  have E3Y := Q5.out
  have E3Z := V8.out
  have E4a := Z3.out
  have E4b := Z8.out
  have E4c := J2.out
  have E4d := J5.out
  have E4e := E0g.out
  have E4f := E0h.out
  have E4g := L7.out
  have E4h := Z7.out
  have E4i := J1.out
  have E4j := J6.out
  have hs155 : w149.cell? ⟨E5, 1, none⟩ = some (.int .i64 0) := (blk_cell G1.out 1).trans rfl
  have hfs155 := blk_frozen G1.out 1
  have E4k := Q5.out
  have E4l := V8.out
  have E4m := Z3.out
  have E4n := Z8.out
  have E4o := J2.out
  have E4p := J5.out
  have E4q := E0g.out
  have E4r := E0h.out
  have E4s := L7.out
  have E4t := Z7.out
  have E4u := J1.out
  have E4v := J6.out
  refine skip_ (w1 := ?_) (by rfl) rfl ?_ ?_
  rotate_left
  · go_simp
    rfl
  refine hK.out _ _ ⟨((cell_far (p := ⟨E5, _, none⟩) V8.out _).trans (((cell_far (p := ⟨E5, _, none⟩) V8.out _).trans (hHeld.1)))), ((cell_far (p := ⟨E5, _, none⟩) V8.out _).trans (((cell_far (p := ⟨E5, _, none⟩) V8.out _).trans (hHeld.2.1)))), ((cell_far (p := ⟨E5, _, none⟩) V8.out _).trans (((cell_far (p := ⟨E5, _, none⟩) V8.out _).trans (hHeld.2.2.1)))), ((cell_far (p := ⟨E5, _, none⟩) V8.out _).trans (((cell_far (p := ⟨E5, _, none⟩) V8.out _).trans (hHeld.2.2.2))))⟩ (fun hHeld => ?_)
  clear hK K
  refine one_ (i := 43) (N := none) #[true, true, true, true, true, true, true, true, true, true, true, true, true, true, true, true, true, true, true, true, true, true, true, true, true, true, true, true, true, true, true, true, true, true, true, true, true, true, true, true, true, true, true, true] rfl rfl (one_of HT_.out (by kernel_rfl)) (by decide) (fun K hK => ?_)
  have hs156 : w149.cell? ⟨E6, 0, none⟩ = some (.int .i64 0) := (blk_cell G2.out 0).trans rfl
  have hfs156 := blk_frozen G2.out 0
  have E4w := Q6.out
  have E4x := V9.out
  have E4y := Z4.out
  have E4z := J0.out
  have E4A := J4.out
  have E4B := J6.out
  have E4C := E0i.out
  have E4D := E0j.out
  have E4E := L8.out
  have E4F := Z9.out
  have E4G := J3.out
  have E4H := J5.out
  have hs157 : w149.cell? ⟨E6, 1, none⟩ = some (.int .i64 0) := (blk_cell G2.out 1).trans rfl
  have hfs157 := blk_frozen G2.out 1
  have E4I := Q6.out
  have E4J := V9.out
  have E4K := Z4.out
  have E4L := J0.out
  have E4M := J4.out
  have E4N := J6.out
  have E4O := E0i.out
  have E4P := E0j.out
  have E4Q := L8.out
  have E4R := Z9.out
  have E4S := J3.out
  have E4T := J5.out
  refine skip_ (w1 := ?_) (by rfl) rfl ?_ ?_
  rotate_left
  · go_simp
    rfl
  refine hK.out _ _ ⟨((cell_far (p := ⟨E6, _, none⟩) V9.out _).trans (((cell_far (p := ⟨E6, _, none⟩) V9.out _).trans (hHeld.1)))), ((cell_far (p := ⟨E6, _, none⟩) V9.out _).trans (((cell_far (p := ⟨E6, _, none⟩) V9.out _).trans (hHeld.2.1)))), ((cell_far (p := ⟨E6, _, none⟩) V9.out _).trans (((cell_far (p := ⟨E6, _, none⟩) V9.out _).trans (hHeld.2.2.1)))), ((cell_far (p := ⟨E6, _, none⟩) V9.out _).trans (((cell_far (p := ⟨E6, _, none⟩) V9.out _).trans (hHeld.2.2.2))))⟩ (fun hHeld => ?_)
  clear hK K
  refine done_ (done_of HT_.out (by kernel_rfl)) ?_
  try go_wp2
  have n0_ : Aside0 (((((((((w149.setCell ⟨E3, 0, none⟩ (.int .i64 t318)).setCell ⟨E3, 1, none⟩ (.int .i64 t319)).setCell ⟨E4, 0, none⟩ (.int .i64 t320)).setCell ⟨E4, 1, none⟩ (.int .i64 t321)).setCell ⟨E5, 0, none⟩ (.int .i64 t322)).setCell ⟨E5, 1, none⟩ (.int .i64 t323)).setCell ⟨E6, 0, none⟩ (.int .i64 t324)).setCell ⟨E6, 1, none⟩ (.int .i64 t325)).heap[E7]? = some (.cells #[.int .i64 a0_0, .int .i64 a0_1, .int .i64 a0_2, .int .i64 a0_3, .int .i64 a0_4, .int .i64 a0_5] 32 (0, 0))) := ⟨by (with_reducible repeat (first | refine blk_drewN ?_ _ | refine blk_drew ?_ | refine blk_alloc ?_ _)); refine blk_far ?_ Q6.out _; (with_reducible repeat (first | refine blk_drewN ?_ _ | refine blk_drew ?_ | refine blk_alloc ?_ _)); refine blk_far ?_ Q6.out _; (with_reducible repeat (first | refine blk_drewN ?_ _ | refine blk_drew ?_ | refine blk_alloc ?_ _)); refine blk_far ?_ Q5.out _; (with_reducible repeat (first | refine blk_drewN ?_ _ | refine blk_drew ?_ | refine blk_alloc ?_ _)); refine blk_far ?_ Q5.out _; (with_reducible repeat (first | refine blk_drewN ?_ _ | refine blk_drew ?_ | refine blk_alloc ?_ _)); refine blk_far ?_ Q4.out _; (with_reducible repeat (first | refine blk_drewN ?_ _ | refine blk_drew ?_ | refine blk_alloc ?_ _)); refine blk_far ?_ Q4.out _; (with_reducible repeat (first | refine blk_drewN ?_ _ | refine blk_drew ?_ | refine blk_alloc ?_ _)); refine blk_far ?_ Q3.out _; (with_reducible repeat (first | refine blk_drewN ?_ _ | refine blk_drew ?_ | refine blk_alloc ?_ _)); refine blk_far ?_ Q3.out _; (with_reducible repeat (first | refine blk_drewN ?_ _ | refine blk_drew ?_ | refine blk_alloc ?_ _)); exact E0.out⟩
  have n1_ : Aside0 (((((((((w149.setCell ⟨E3, 0, none⟩ (.int .i64 t318)).setCell ⟨E3, 1, none⟩ (.int .i64 t319)).setCell ⟨E4, 0, none⟩ (.int .i64 t320)).setCell ⟨E4, 1, none⟩ (.int .i64 t321)).setCell ⟨E5, 0, none⟩ (.int .i64 t322)).setCell ⟨E5, 1, none⟩ (.int .i64 t323)).setCell ⟨E6, 0, none⟩ (.int .i64 t324)).setCell ⟨E6, 1, none⟩ (.int .i64 t325)).heap[E8]? = some (.cells #[.int .i64 a1_0, .int .i64 a1_1, .int .i64 a1_2, .int .i64 a1_3] 27 (0, 0))) := ⟨by (with_reducible repeat (first | refine blk_drewN ?_ _ | refine blk_drew ?_ | refine blk_alloc ?_ _)); refine blk_far ?_ V9.out _; (with_reducible repeat (first | refine blk_drewN ?_ _ | refine blk_drew ?_ | refine blk_alloc ?_ _)); refine blk_far ?_ V9.out _; (with_reducible repeat (first | refine blk_drewN ?_ _ | refine blk_drew ?_ | refine blk_alloc ?_ _)); refine blk_far ?_ V8.out _; (with_reducible repeat (first | refine blk_drewN ?_ _ | refine blk_drew ?_ | refine blk_alloc ?_ _)); refine blk_far ?_ V8.out _; (with_reducible repeat (first | refine blk_drewN ?_ _ | refine blk_drew ?_ | refine blk_alloc ?_ _)); refine blk_far ?_ V7.out _; (with_reducible repeat (first | refine blk_drewN ?_ _ | refine blk_drew ?_ | refine blk_alloc ?_ _)); refine blk_far ?_ V7.out _; (with_reducible repeat (first | refine blk_drewN ?_ _ | refine blk_drew ?_ | refine blk_alloc ?_ _)); refine blk_far ?_ V6.out _; (with_reducible repeat (first | refine blk_drewN ?_ _ | refine blk_drew ?_ | refine blk_alloc ?_ _)); refine blk_far ?_ V6.out _; (with_reducible repeat (first | refine blk_drewN ?_ _ | refine blk_drew ?_ | refine blk_alloc ?_ _)); exact E1.out⟩
  have n2_ : Aside0 (((((((((w149.setCell ⟨E3, 0, none⟩ (.int .i64 t318)).setCell ⟨E3, 1, none⟩ (.int .i64 t319)).setCell ⟨E4, 0, none⟩ (.int .i64 t320)).setCell ⟨E4, 1, none⟩ (.int .i64 t321)).setCell ⟨E5, 0, none⟩ (.int .i64 t322)).setCell ⟨E5, 1, none⟩ (.int .i64 t323)).setCell ⟨E6, 0, none⟩ (.int .i64 t324)).setCell ⟨E6, 1, none⟩ (.int .i64 t325)).heap[G3]? = some (.cells #[.int .i64 0, .int .i64 0, .int .i64 0, .int .i64 0] 27 (0, 0))) := ⟨by (with_reducible repeat (first | refine blk_drewN ?_ _ | refine blk_drew ?_ | refine blk_alloc ?_ _)); refine blk_far ?_ Z4.out _; (with_reducible repeat (first | refine blk_drewN ?_ _ | refine blk_drew ?_ | refine blk_alloc ?_ _)); refine blk_far ?_ Z4.out _; (with_reducible repeat (first | refine blk_drewN ?_ _ | refine blk_drew ?_ | refine blk_alloc ?_ _)); refine blk_far ?_ Z3.out _; (with_reducible repeat (first | refine blk_drewN ?_ _ | refine blk_drew ?_ | refine blk_alloc ?_ _)); refine blk_far ?_ Z3.out _; (with_reducible repeat (first | refine blk_drewN ?_ _ | refine blk_drew ?_ | refine blk_alloc ?_ _)); refine blk_far ?_ Z2.out _; (with_reducible repeat (first | refine blk_drewN ?_ _ | refine blk_drew ?_ | refine blk_alloc ?_ _)); refine blk_far ?_ Z2.out _; (with_reducible repeat (first | refine blk_drewN ?_ _ | refine blk_drew ?_ | refine blk_alloc ?_ _)); refine blk_far ?_ Z1.out _; (with_reducible repeat (first | refine blk_drewN ?_ _ | refine blk_drew ?_ | refine blk_alloc ?_ _)); refine blk_far ?_ Z1.out _; (with_reducible repeat (first | refine blk_drewN ?_ _ | refine blk_drew ?_ | refine blk_alloc ?_ _)); exact E2.out⟩
  have n3_ : Aside0 (((((((((w149.setCell ⟨E3, 0, none⟩ (.int .i64 t318)).setCell ⟨E3, 1, none⟩ (.int .i64 t319)).setCell ⟨E4, 0, none⟩ (.int .i64 t320)).setCell ⟨E4, 1, none⟩ (.int .i64 t321)).setCell ⟨E5, 0, none⟩ (.int .i64 t322)).setCell ⟨E5, 1, none⟩ (.int .i64 t323)).setCell ⟨E6, 0, none⟩ (.int .i64 t324)).setCell ⟨E6, 1, none⟩ (.int .i64 t325)).heap[E3]? = some (.cells #[.int .i64 t318, .int .i64 t319] 54 (0, 0))) := ⟨by (with_reducible repeat (first | refine blk_drewN ?_ _ | refine blk_drew ?_ | refine blk_alloc ?_ _)); refine blk_far ?_ J0.out _; (with_reducible repeat (first | refine blk_drewN ?_ _ | refine blk_drew ?_ | refine blk_alloc ?_ _)); refine blk_far ?_ J0.out _; (with_reducible repeat (first | refine blk_drewN ?_ _ | refine blk_drew ?_ | refine blk_alloc ?_ _)); refine blk_far ?_ Z8.out _; (with_reducible repeat (first | refine blk_drewN ?_ _ | refine blk_drew ?_ | refine blk_alloc ?_ _)); refine blk_far ?_ Z8.out _; (with_reducible repeat (first | refine blk_drewN ?_ _ | refine blk_drew ?_ | refine blk_alloc ?_ _)); refine blk_far ?_ Z6.out _; (with_reducible repeat (first | refine blk_drewN ?_ _ | refine blk_drew ?_ | refine blk_alloc ?_ _)); refine blk_far ?_ Z6.out _; (with_reducible repeat (first | refine blk_drewN ?_ _ | refine blk_drew ?_ | refine blk_alloc ?_ _)); refine blk_put (cs := #[.int .i64 t318, .int .i64 0]) ?_ 1 _ rfl; (with_reducible repeat (first | refine blk_drewN ?_ _ | refine blk_drew ?_ | refine blk_alloc ?_ _)); refine blk_put (cs := #[.int .i64 0, .int .i64 0]) ?_ 0 _ rfl; (with_reducible repeat (first | refine blk_drewN ?_ _ | refine blk_drew ?_ | refine blk_alloc ?_ _)); exact E9.out⟩
  have n4_ : Aside0 (((((((((w149.setCell ⟨E3, 0, none⟩ (.int .i64 t318)).setCell ⟨E3, 1, none⟩ (.int .i64 t319)).setCell ⟨E4, 0, none⟩ (.int .i64 t320)).setCell ⟨E4, 1, none⟩ (.int .i64 t321)).setCell ⟨E5, 0, none⟩ (.int .i64 t322)).setCell ⟨E5, 1, none⟩ (.int .i64 t323)).setCell ⟨E6, 0, none⟩ (.int .i64 t324)).setCell ⟨E6, 1, none⟩ (.int .i64 t325)).heap[E4]? = some (.cells #[.int .i64 t320, .int .i64 t321] 54 (0, 0))) := ⟨by (with_reducible repeat (first | refine blk_drewN ?_ _ | refine blk_drew ?_ | refine blk_alloc ?_ _)); refine blk_far ?_ J4.out _; (with_reducible repeat (first | refine blk_drewN ?_ _ | refine blk_drew ?_ | refine blk_alloc ?_ _)); refine blk_far ?_ J4.out _; (with_reducible repeat (first | refine blk_drewN ?_ _ | refine blk_drew ?_ | refine blk_alloc ?_ _)); refine blk_far ?_ J2.out _; (with_reducible repeat (first | refine blk_drewN ?_ _ | refine blk_drew ?_ | refine blk_alloc ?_ _)); refine blk_far ?_ J2.out _; (with_reducible repeat (first | refine blk_drewN ?_ _ | refine blk_drew ?_ | refine blk_alloc ?_ _)); refine blk_put (cs := #[.int .i64 t320, .int .i64 0]) ?_ 1 _ rfl; (with_reducible repeat (first | refine blk_drewN ?_ _ | refine blk_drew ?_ | refine blk_alloc ?_ _)); refine blk_put (cs := #[.int .i64 0, .int .i64 0]) ?_ 0 _ rfl; (with_reducible repeat (first | refine blk_drewN ?_ _ | refine blk_drew ?_ | refine blk_alloc ?_ _)); refine blk_far ?_ Z5.out _; (with_reducible repeat (first | refine blk_drewN ?_ _ | refine blk_drew ?_ | refine blk_alloc ?_ _)); refine blk_far ?_ Z5.out _; (with_reducible repeat (first | refine blk_drewN ?_ _ | refine blk_drew ?_ | refine blk_alloc ?_ _)); exact G0.out⟩
  have n5_ : Aside0 (((((((((w149.setCell ⟨E3, 0, none⟩ (.int .i64 t318)).setCell ⟨E3, 1, none⟩ (.int .i64 t319)).setCell ⟨E4, 0, none⟩ (.int .i64 t320)).setCell ⟨E4, 1, none⟩ (.int .i64 t321)).setCell ⟨E5, 0, none⟩ (.int .i64 t322)).setCell ⟨E5, 1, none⟩ (.int .i64 t323)).setCell ⟨E6, 0, none⟩ (.int .i64 t324)).setCell ⟨E6, 1, none⟩ (.int .i64 t325)).heap[E5]? = some (.cells #[.int .i64 t322, .int .i64 t323] 54 (0, 0))) := ⟨by (with_reducible repeat (first | refine blk_drewN ?_ _ | refine blk_drew ?_ | refine blk_alloc ?_ _)); refine blk_far ?_ J6.out _; (with_reducible repeat (first | refine blk_drewN ?_ _ | refine blk_drew ?_ | refine blk_alloc ?_ _)); refine blk_far ?_ J6.out _; (with_reducible repeat (first | refine blk_drewN ?_ _ | refine blk_drew ?_ | refine blk_alloc ?_ _)); refine blk_put (cs := #[.int .i64 t322, .int .i64 0]) ?_ 1 _ rfl; (with_reducible repeat (first | refine blk_drewN ?_ _ | refine blk_drew ?_ | refine blk_alloc ?_ _)); refine blk_put (cs := #[.int .i64 0, .int .i64 0]) ?_ 0 _ rfl; (with_reducible repeat (first | refine blk_drewN ?_ _ | refine blk_drew ?_ | refine blk_alloc ?_ _)); refine blk_far ?_ J1.out _; (with_reducible repeat (first | refine blk_drewN ?_ _ | refine blk_drew ?_ | refine blk_alloc ?_ _)); refine blk_far ?_ J1.out _; (with_reducible repeat (first | refine blk_drewN ?_ _ | refine blk_drew ?_ | refine blk_alloc ?_ _)); refine blk_far ?_ Z7.out _; (with_reducible repeat (first | refine blk_drewN ?_ _ | refine blk_drew ?_ | refine blk_alloc ?_ _)); refine blk_far ?_ Z7.out _; (with_reducible repeat (first | refine blk_drewN ?_ _ | refine blk_drew ?_ | refine blk_alloc ?_ _)); exact G1.out⟩
  have n6_ : Aside0 (((((((((w149.setCell ⟨E3, 0, none⟩ (.int .i64 t318)).setCell ⟨E3, 1, none⟩ (.int .i64 t319)).setCell ⟨E4, 0, none⟩ (.int .i64 t320)).setCell ⟨E4, 1, none⟩ (.int .i64 t321)).setCell ⟨E5, 0, none⟩ (.int .i64 t322)).setCell ⟨E5, 1, none⟩ (.int .i64 t323)).setCell ⟨E6, 0, none⟩ (.int .i64 t324)).setCell ⟨E6, 1, none⟩ (.int .i64 t325)).heap[E6]? = some (.cells #[.int .i64 t324, .int .i64 t325] 54 (0, 0))) := ⟨by (with_reducible repeat (first | refine blk_drewN ?_ _ | refine blk_drew ?_ | refine blk_alloc ?_ _)); refine blk_put (cs := #[.int .i64 t324, .int .i64 0]) ?_ 1 _ rfl; (with_reducible repeat (first | refine blk_drewN ?_ _ | refine blk_drew ?_ | refine blk_alloc ?_ _)); refine blk_put (cs := #[.int .i64 0, .int .i64 0]) ?_ 0 _ rfl; (with_reducible repeat (first | refine blk_drewN ?_ _ | refine blk_drew ?_ | refine blk_alloc ?_ _)); refine blk_far ?_ J5.out _; (with_reducible repeat (first | refine blk_drewN ?_ _ | refine blk_drew ?_ | refine blk_alloc ?_ _)); refine blk_far ?_ J5.out _; (with_reducible repeat (first | refine blk_drewN ?_ _ | refine blk_drew ?_ | refine blk_alloc ?_ _)); refine blk_far ?_ J3.out _; (with_reducible repeat (first | refine blk_drewN ?_ _ | refine blk_drew ?_ | refine blk_alloc ?_ _)); refine blk_far ?_ J3.out _; (with_reducible repeat (first | refine blk_drewN ?_ _ | refine blk_drew ?_ | refine blk_alloc ?_ _)); refine blk_far ?_ Z9.out _; (with_reducible repeat (first | refine blk_drewN ?_ _ | refine blk_drew ?_ | refine blk_alloc ?_ _)); refine blk_far ?_ Z9.out _; (with_reducible repeat (first | refine blk_drewN ?_ _ | refine blk_drew ?_ | refine blk_alloc ?_ _)); exact G2.out⟩
  have n7_ : Aside0 (Below w.heap.size w ((((((((w149.setCell ⟨E3, 0, none⟩ (.int .i64 t318)).setCell ⟨E3, 1, none⟩ (.int .i64 t319)).setCell ⟨E4, 0, none⟩ (.int .i64 t320)).setCell ⟨E4, 1, none⟩ (.int .i64 t321)).setCell ⟨E5, 0, none⟩ (.int .i64 t322)).setCell ⟨E5, 1, none⟩ (.int .i64 t323)).setCell ⟨E6, 0, none⟩ (.int .i64 t324)).setCell ⟨E6, 1, none⟩ (.int .i64 t325))) := ⟨by repeat (first | (with_reducible first | exact HB.out | apply below_alloc | apply pw_below_drewN | apply below_drew1 | refine below_set ?_ E0m.out | refine below_set ?_ E0n.out | refine below_set ?_ E0o.out | refine below_set ?_ E0p.out) | exact HB.out)⟩
  (try clear E0)
  (try clear E1)
  (try clear E2)
  (try clear E9)
  (try clear G0)
  (try clear G1)
  (try clear G2)
  (try clear HB)
  generalize ((((((((w149.setCell ⟨E3, 0, none⟩ (.int .i64 t318)).setCell ⟨E3, 1, none⟩ (.int .i64 t319)).setCell ⟨E4, 0, none⟩ (.int .i64 t320)).setCell ⟨E4, 1, none⟩ (.int .i64 t321)).setCell ⟨E5, 0, none⟩ (.int .i64 t322)).setCell ⟨E5, 1, none⟩ (.int .i64 t323)).setCell ⟨E6, 0, none⟩ (.int .i64 t324)).setCell ⟨E6, 1, none⟩ (.int .i64 t325)) = w158 at n0_ n1_ n2_ n3_ n4_ n5_ n6_ n7_ ⊢
  have E0 := n0_
  have E1 := n1_
  have E2 := n2_
  have E9 := n3_
  have G0 := n4_
  have G1 := n5_
  have G2 := n6_
  have HB := n7_
  clear n0_ n1_ n2_ n3_ n4_ n5_ n6_ n7_
  replace E0 := zkd E0
  replace E1 := zkd E1
  replace E2 := zkd E2
  replace E9 := zkd E9
  replace G0 := zkd G0
  replace G1 := zkd G1
  replace G2 := zkd G2
  replace HB := zbd HB
  refine start_ (n := 24) (S := fun w' => w'.cell? ⟨E3, 0, none⟩ = some (.int .i64 t318) ∧ w'.cell? ⟨E3, 1, none⟩ = some (.int .i64 t319) ∧ w'.cell? ⟨E4, 0, none⟩ = some (.int .i64 t320) ∧ w'.cell? ⟨E4, 1, none⟩ = some (.int .i64 t321) ∧ w'.cell? ⟨E5, 0, none⟩ = some (.int .i64 t322) ∧ w'.cell? ⟨E5, 1, none⟩ = some (.int .i64 t323) ∧ w'.cell? ⟨E6, 0, none⟩ = some (.int .i64 t324) ∧ w'.cell? ⟨E6, 1, none⟩ = some (.int .i64 t325)) (ds := []) #[false, false, false, false, false, false, false, false, false, false, false, false, false, false, false, false, false, false, false, false, false, false, false, false] (by kernel_rfl) rfl rfl ⟨(blk_cell E9.out 0).trans rfl, (blk_cell E9.out 1).trans rfl, (blk_cell G0.out 0).trans rfl, (blk_cell G0.out 1).trans rfl, (blk_cell G1.out 0).trans rfl, (blk_cell G1.out 1).trans rfl, (blk_cell G2.out 0).trans rfl, (blk_cell G2.out 1).trans rfl⟩ (fun hHeld => ?_); refine with_tabW affine_Box.tab12 affine_Box.bits12 (fun HT_ HW_ => ?_)
  generalize w158.drew = w159 at E0 E1 E2 E9 G0 G1 G2 HB hHeld ⊢
  refine pure_ (i := 0) (N := some 68) (v := ?_) (a' := ?_) #[true, false, false, false, false, false, false, false, false, false, false, false, false, false, false, false, false, false, false, false, false, false, false, false] rfl rfl (any_of HT_.out (by kernel_rfl)) (fun _ _ _ h => h) (Or.inl ⟨by rfl, ?_⟩) ?_ ?_
  rotate_left
  · intro w'
    go_simp
    with_reducible rfl
  rotate_left
  · simp only [Act.put, List.setIfInBounds_toArray, List.set_cons_zero, List.set_cons_succ, i64_w, i32_w]
    rfl
  refine pure_ (i := 1) (N := some 69) (v := ?_) (a' := ?_) #[true, true, false, false, false, false, false, false, false, false, false, false, false, false, false, false, false, false, false, false, false, false, false, false] rfl rfl (any_of HT_.out (by kernel_rfl)) (fun _ _ _ h => h) (Or.inl ⟨by rfl, ?_⟩) ?_ ?_
  rotate_left
  · intro w'
    go_simp
    with_reducible rfl
  rotate_left
  · simp only [Act.put, List.setIfInBounds_toArray, List.set_cons_zero, List.set_cons_succ, i64_w, i32_w]
    rfl
  refine pure_ (i := 3) (N := some 71) (v := ?_) (a' := ?_) #[true, true, false, true, false, false, false, false, false, false, false, false, false, false, false, false, false, false, false, false, false, false, false, false] rfl rfl (any_of HT_.out (by kernel_rfl)) (fun _ _ _ h => h) (Or.inl ⟨by rfl, ?_⟩) ?_ ?_
  rotate_left
  · intro w'
    go_simp
    with_reducible rfl
  rotate_left
  · simp only [Act.put, List.setIfInBounds_toArray, List.set_cons_zero, List.set_cons_succ, i64_w, i32_w]
    rfl
  refine pure_ (i := 5) (N := some 73) (v := ?_) (a' := ?_) #[true, true, false, true, false, true, false, false, false, false, false, false, false, false, false, false, false, false, false, false, false, false, false, false] rfl rfl (any_of HT_.out (by kernel_rfl)) (fun _ _ _ h => h) (Or.inl ⟨by rfl, ?_⟩) ?_ ?_
  rotate_left
  · intro w'
    go_simp
    with_reducible rfl
  rotate_left
  · simp only [Act.put, List.setIfInBounds_toArray, List.set_cons_zero, List.set_cons_succ, i64_w, i32_w]
    rfl
  refine pure_ (i := 7) (N := some 75) (v := ?_) (a' := ?_) #[true, true, false, true, false, true, false, true, false, false, false, false, false, false, false, false, false, false, false, false, false, false, false, false] rfl rfl (any_of HT_.out (by kernel_rfl)) (fun _ _ _ h => h) (Or.inl ⟨by rfl, ?_⟩) ?_ ?_
  rotate_left
  · intro w'
    go_simp
    with_reducible rfl
  rotate_left
  · simp only [Act.put, List.setIfInBounds_toArray, List.set_cons_zero, List.set_cons_succ, i64_w, i32_w]
    rfl
  refine pure_ (i := 11) (N := some 79) (v := ?_) (a' := ?_) #[true, true, false, true, false, true, false, true, false, false, false, true, false, false, false, false, false, false, false, false, false, false, false, false] rfl rfl (any_of HT_.out (by kernel_rfl)) (fun _ _ _ h => h) (Or.inl ⟨by rfl, ?_⟩) ?_ ?_
  rotate_left
  · intro w'
    go_simp
    with_reducible rfl
  rotate_left
  · simp only [Act.put, List.setIfInBounds_toArray, List.set_cons_zero, List.set_cons_succ, i64_w, i32_w]
    rfl
  refine pure_ (i := 12) (N := some 80) (v := ?_) (a' := ?_) #[true, true, false, true, false, true, false, true, false, false, false, true, true, false, false, false, false, false, false, false, false, false, false, false] rfl rfl (any_of HT_.out (by kernel_rfl)) (fun _ _ _ h => h) (Or.inl ⟨by rfl, ?_⟩) ?_ ?_
  rotate_left
  · intro w'
    go_simp
    with_reducible rfl
  rotate_left
  · simp only [Act.put, List.setIfInBounds_toArray, List.set_cons_zero, List.set_cons_succ, i64_w, i32_w]
    rfl
  refine pure_ (i := 14) (N := some 82) (v := ?_) (a' := ?_) #[true, true, false, true, false, true, false, true, false, false, false, true, true, false, true, false, false, false, false, false, false, false, false, false] rfl rfl (any_of HT_.out (by kernel_rfl)) (fun _ _ _ h => h) (Or.inl ⟨by rfl, ?_⟩) ?_ ?_
  rotate_left
  · intro w'
    go_simp
    with_reducible rfl
  rotate_left
  · simp only [Act.put, List.setIfInBounds_toArray, List.set_cons_zero, List.set_cons_succ, i64_w, i32_w]
    rfl
  refine pure_ (i := 16) (N := some 84) (v := ?_) (a' := ?_) #[true, true, false, true, false, true, false, true, false, false, false, true, true, false, true, false, true, false, false, false, false, false, false, false] rfl rfl (any_of HT_.out (by kernel_rfl)) (fun _ _ _ h => h) (Or.inl ⟨by rfl, ?_⟩) ?_ ?_
  rotate_left
  · intro w'
    go_simp
    with_reducible rfl
  rotate_left
  · simp only [Act.put, List.setIfInBounds_toArray, List.set_cons_zero, List.set_cons_succ, i64_w, i32_w]
    rfl
  refine pure_ (i := 18) (N := some 86) (v := ?_) (a' := ?_) #[true, true, false, true, false, true, false, true, false, false, false, true, true, false, true, false, true, false, true, false, false, false, false, false] rfl rfl (any_of HT_.out (by kernel_rfl)) (fun _ _ _ h => h) (Or.inl ⟨by rfl, ?_⟩) ?_ ?_
  rotate_left
  · intro w'
    go_simp
    with_reducible rfl
  rotate_left
  · simp only [Act.put, List.setIfInBounds_toArray, List.set_cons_zero, List.set_cons_succ, i64_w, i32_w]
    rfl
  refine take_ (i := 2) (N := some 70) (v := ?_) (a' := ?_) #[true, true, true, true, false, true, false, true, false, false, false, true, true, false, true, false, true, false, true, false, false, false, false, false] rfl rfl (take_ofW HT_.out HW_.out (by kernel_rfl)) (fun _ _ _ h => h) (Or.inl ⟨by rfl, ?_⟩) hHeld ?_ ?_
  rotate_left
  · rintro w' ⟨s0, s1, s2, s3, s4, s5, s6, s7⟩
    go_simp
    with_reducible rfl
  rotate_left
  · simp only [Act.put, List.setIfInBounds_toArray, List.set_cons_zero, List.set_cons_succ, i64_w, i32_w]
    rfl
  refine take_ (i := 4) (N := some 72) (v := ?_) (a' := ?_) #[true, true, true, true, true, true, false, true, false, false, false, true, true, false, true, false, true, false, true, false, false, false, false, false] rfl rfl (take_ofW HT_.out HW_.out (by kernel_rfl)) (fun _ _ _ h => h) (Or.inl ⟨by rfl, ?_⟩) hHeld ?_ ?_
  rotate_left
  · rintro w' ⟨s0, s1, s2, s3, s4, s5, s6, s7⟩
    go_simp
    with_reducible rfl
  rotate_left
  · simp only [Act.put, List.setIfInBounds_toArray, List.set_cons_zero, List.set_cons_succ, i64_w, i32_w]
    rfl
  refine take_ (i := 6) (N := some 74) (v := ?_) (a' := ?_) #[true, true, true, true, true, true, true, true, false, false, false, true, true, false, true, false, true, false, true, false, false, false, false, false] rfl rfl (take_ofW HT_.out HW_.out (by kernel_rfl)) (fun _ _ _ h => h) (Or.inl ⟨by rfl, ?_⟩) hHeld ?_ ?_
  rotate_left
  · rintro w' ⟨s0, s1, s2, s3, s4, s5, s6, s7⟩
    go_simp
    with_reducible rfl
  rotate_left
  · simp only [Act.put, List.setIfInBounds_toArray, List.set_cons_zero, List.set_cons_succ, i64_w, i32_w]
    rfl
  refine take_ (i := 8) (N := some 76) (v := ?_) (a' := ?_) #[true, true, true, true, true, true, true, true, true, false, false, true, true, false, true, false, true, false, true, false, false, false, false, false] rfl rfl (take_ofW HT_.out HW_.out (by kernel_rfl)) (fun _ _ _ h => h) (Or.inl ⟨by rfl, ?_⟩) hHeld ?_ ?_
  rotate_left
  · rintro w' ⟨s0, s1, s2, s3, s4, s5, s6, s7⟩
    go_simp
    with_reducible rfl
  rotate_left
  · simp only [Act.put, List.setIfInBounds_toArray, List.set_cons_zero, List.set_cons_succ, i64_w, i32_w]
    rfl
  refine pure_ (i := 9) (N := some 77) (v := ?_) (a' := ?_) #[true, true, true, true, true, true, true, true, true, true, false, true, true, false, true, false, true, false, true, false, false, false, false, false] rfl rfl (any_of HT_.out (by kernel_rfl)) (fun _ _ _ h => h) (Or.inl ⟨by rfl, ?_⟩) ?_ ?_
  rotate_left
  · intro w'
    go_simp
    with_reducible rfl
  rotate_left
  · simp only [Act.put, List.setIfInBounds_toArray, List.set_cons_zero, List.set_cons_succ, i64_w, i32_w]
    rfl
  refine take_ (i := 13) (N := some 81) (v := ?_) (a' := ?_) #[true, true, true, true, true, true, true, true, true, true, false, true, true, true, true, false, true, false, true, false, false, false, false, false] rfl rfl (take_ofW HT_.out HW_.out (by kernel_rfl)) (fun _ _ _ h => h) (Or.inl ⟨by rfl, ?_⟩) hHeld ?_ ?_
  rotate_left
  · rintro w' ⟨s0, s1, s2, s3, s4, s5, s6, s7⟩
    go_simp
    with_reducible rfl
  rotate_left
  · simp only [Act.put, List.setIfInBounds_toArray, List.set_cons_zero, List.set_cons_succ, i64_w, i32_w]
    rfl
  refine take_ (i := 15) (N := some 83) (v := ?_) (a' := ?_) #[true, true, true, true, true, true, true, true, true, true, false, true, true, true, true, true, true, false, true, false, false, false, false, false] rfl rfl (take_ofW HT_.out HW_.out (by kernel_rfl)) (fun _ _ _ h => h) (Or.inl ⟨by rfl, ?_⟩) hHeld ?_ ?_
  rotate_left
  · rintro w' ⟨s0, s1, s2, s3, s4, s5, s6, s7⟩
    go_simp
    with_reducible rfl
  rotate_left
  · simp only [Act.put, List.setIfInBounds_toArray, List.set_cons_zero, List.set_cons_succ, i64_w, i32_w]
    rfl
  refine take_ (i := 17) (N := some 85) (v := ?_) (a' := ?_) #[true, true, true, true, true, true, true, true, true, true, false, true, true, true, true, true, true, true, true, false, false, false, false, false] rfl rfl (take_ofW HT_.out HW_.out (by kernel_rfl)) (fun _ _ _ h => h) (Or.inl ⟨by rfl, ?_⟩) hHeld ?_ ?_
  rotate_left
  · rintro w' ⟨s0, s1, s2, s3, s4, s5, s6, s7⟩
    go_simp
    with_reducible rfl
  rotate_left
  · simp only [Act.put, List.setIfInBounds_toArray, List.set_cons_zero, List.set_cons_succ, i64_w, i32_w]
    rfl
  refine take_ (i := 19) (N := some 87) (v := ?_) (a' := ?_) #[true, true, true, true, true, true, true, true, true, true, false, true, true, true, true, true, true, true, true, true, false, false, false, false] rfl rfl (take_ofW HT_.out HW_.out (by kernel_rfl)) (fun _ _ _ h => h) (Or.inl ⟨by rfl, ?_⟩) hHeld ?_ ?_
  rotate_left
  · rintro w' ⟨s0, s1, s2, s3, s4, s5, s6, s7⟩
    go_simp
    with_reducible rfl
  rotate_left
  · simp only [Act.put, List.setIfInBounds_toArray, List.set_cons_zero, List.set_cons_succ, i64_w, i32_w]
    rfl
  refine pure_ (i := 20) (N := some 88) (v := ?_) (a' := ?_) #[true, true, true, true, true, true, true, true, true, true, false, true, true, true, true, true, true, true, true, true, true, false, false, false] rfl rfl (any_of HT_.out (by kernel_rfl)) (fun _ _ _ h => h) (Or.inl ⟨by rfl, ?_⟩) ?_ ?_
  rotate_left
  · intro w'
    go_simp
    with_reducible rfl
  rotate_left
  · simp only [Act.put, List.setIfInBounds_toArray, List.set_cons_zero, List.set_cons_succ, i64_w, i32_w]
    rfl
  refine one_ (i := 10) (N := some 78) #[true, true, true, true, true, true, true, true, true, true, true, true, true, true, true, true, true, true, true, true, true, false, false, false] rfl rfl (one_of HT_.out (by kernel_rfl)) (by decide) (fun K hK => ?_)
  refine goesT_ (t := 68) Try.func68 (by kernel_rfl) rfl #[] #[.int .i64 L9] (by rfl) rfl rfl (by first | rfl | (go_simp; done) | (go_simp; rfl)) (by (try simp only [List.map_toArray, List.map_cons, List.map_nil]); first | done | rfl | (go_simp; done) | (go_simp; rfl)) ?_
  with_reducible refine (affine_Box_2.calls L9 t330 _ A29.out).mono ?_
  rintro e w160 ⟨rfl, hb⟩
  refine ⟨_, rfl, ?_⟩
  replace E0 := zk E0 hb
  replace E1 := zk E1 hb
  replace E2 := zk E2 hb
  replace E9 := zk E9 hb
  replace G0 := zk G0 hb
  replace G1 := zk G1 hb
  replace G2 := zk G2 hb
  replace HB := zb HB hb
  (try clear hb)
  (try clear hb2)
  (try clear hk)
  (try clear hi)
  refine hK.out _ _ ⟨(blk_cell E9.out 0).trans rfl, (blk_cell E9.out 1).trans rfl, (blk_cell G0.out 0).trans rfl, (blk_cell G0.out 1).trans rfl, (blk_cell G1.out 0).trans rfl, (blk_cell G1.out 1).trans rfl, (blk_cell G2.out 0).trans rfl, (blk_cell G2.out 1).trans rfl⟩ (fun hHeld => ?_)
  clear hK K
  refine norm_ (a' := ?_) ?_ ?_
  rotate_left
  · show Act.put _ (some 78) _ = _
    simp only [Act.put, List.setIfInBounds_toArray, List.set_cons_zero, List.set_cons_succ, i64_w, i32_w]
    rfl
  refine one_ (i := 21) (N := some 89) #[true, true, true, true, true, true, true, true, true, true, true, true, true, true, true, true, true, true, true, true, true, true, false, false] rfl rfl (one_of HT_.out (by kernel_rfl)) (by decide) (fun K hK => ?_)
  refine goesT_ (t := 79) Try.func69 (by kernel_rfl) rfl #[] #[.int .i64 Q0] (by rfl) rfl rfl (by first | rfl | (go_simp; done) | (go_simp; rfl)) (by (try simp only [List.map_toArray, List.map_cons, List.map_nil]); first | done | rfl | (go_simp; done) | (go_simp; rfl)) ?_
  with_reducible refine (affine_Box_3.calls Q0 t331 _ A33.out).mono ?_
  rintro e w161 ⟨rfl, hb⟩
  refine ⟨_, rfl, ?_⟩
  replace E0 := zk E0 hb
  replace E1 := zk E1 hb
  replace E2 := zk E2 hb
  replace E9 := zk E9 hb
  replace G0 := zk G0 hb
  replace G1 := zk G1 hb
  replace G2 := zk G2 hb
  replace HB := zb HB hb
  (try clear hb)
  (try clear hb2)
  (try clear hk)
  (try clear hi)
  refine hK.out _ _ ⟨(blk_cell E9.out 0).trans rfl, (blk_cell E9.out 1).trans rfl, (blk_cell G0.out 0).trans rfl, (blk_cell G0.out 1).trans rfl, (blk_cell G1.out 0).trans rfl, (blk_cell G1.out 1).trans rfl, (blk_cell G2.out 0).trans rfl, (blk_cell G2.out 1).trans rfl⟩ (fun hHeld => ?_)
  clear hK K
  refine norm_ (a' := ?_) ?_ ?_
  rotate_left
  · show Act.put _ (some 89) _ = _
    simp only [Act.put, List.setIfInBounds_toArray, List.set_cons_zero, List.set_cons_succ, i64_w, i32_w]
    rfl
  refine pure_ (i := 22) (N := some 14) (v := ?_) (a' := ?_) #[true, true, true, true, true, true, true, true, true, true, true, true, true, true, true, true, true, true, true, true, true, true, true, false] rfl rfl (any_of HT_.out (by kernel_rfl)) (fun _ _ _ h => h) (Or.inl ⟨by rfl, ?_⟩) ?_ ?_
  rotate_left
  · intro w'
    go_simp
    with_reducible rfl
  rotate_left
  · simp only [Act.put, List.setIfInBounds_toArray, List.set_cons_zero, List.set_cons_succ, i64_w, i32_w]
    rfl
  refine pure_ (i := 23) (N := some 15) (v := ?_) (a' := ?_) #[true, true, true, true, true, true, true, true, true, true, true, true, true, true, true, true, true, true, true, true, true, true, true, true] rfl rfl (any_of HT_.out (by kernel_rfl)) (fun _ _ _ h => h) (Or.inl ⟨by rfl, ?_⟩) ?_ ?_
  rotate_left
  · intro w'
    go_simp
    with_reducible rfl
  rotate_left
  · simp only [Act.put, List.setIfInBounds_toArray, List.set_cons_zero, List.set_cons_succ, i64_w, i32_w]
    rfl
  refine done_ (done_of HT_.out (by kernel_rfl)) ?_
  try go_wp2
  replace E0 := zkd E0
  replace E1 := zkd E1
  replace E2 := zkd E2
  replace E9 := zkd E9
  replace G0 := zkd G0
  replace G1 := zkd G1
  replace G2 := zkd G2
  replace HB := zbd HB
  refine start_ (n := 24) (S := fun w' => w'.cell? ⟨E3, 0, none⟩ = some (.int .i64 t318) ∧ w'.cell? ⟨E3, 1, none⟩ = some (.int .i64 t319) ∧ w'.cell? ⟨E4, 0, none⟩ = some (.int .i64 t320) ∧ w'.cell? ⟨E4, 1, none⟩ = some (.int .i64 t321) ∧ w'.cell? ⟨E5, 0, none⟩ = some (.int .i64 t322) ∧ w'.cell? ⟨E5, 1, none⟩ = some (.int .i64 t323) ∧ w'.cell? ⟨E6, 0, none⟩ = some (.int .i64 t324) ∧ w'.cell? ⟨E6, 1, none⟩ = some (.int .i64 t325)) (ds := []) #[false, false, false, false, false, false, false, false, false, false, false, false, false, false, false, false, false, false, false, false, false, false, false, false] (by kernel_rfl) rfl rfl ⟨(blk_cell E9.out 0).trans rfl, (blk_cell E9.out 1).trans rfl, (blk_cell G0.out 0).trans rfl, (blk_cell G0.out 1).trans rfl, (blk_cell G1.out 0).trans rfl, (blk_cell G1.out 1).trans rfl, (blk_cell G2.out 0).trans rfl, (blk_cell G2.out 1).trans rfl⟩ (fun hHeld => ?_); refine with_tabW affine_Box.tab13 affine_Box.bits13 (fun HT_ HW_ => ?_)
  generalize w161.drew = w162 at E0 E1 E2 E9 G0 G1 G2 HB hHeld ⊢
  refine pure_ (i := 0) (N := some 90) (v := ?_) (a' := ?_) #[true, false, false, false, false, false, false, false, false, false, false, false, false, false, false, false, false, false, false, false, false, false, false, false] rfl rfl (any_of HT_.out (by kernel_rfl)) (fun _ _ _ h => h) (Or.inl ⟨by rfl, ?_⟩) ?_ ?_
  rotate_left
  · intro w'
    go_simp
    with_reducible rfl
  rotate_left
  · simp only [Act.put, List.setIfInBounds_toArray, List.set_cons_zero, List.set_cons_succ, i64_w, i32_w]
    rfl
  refine pure_ (i := 1) (N := some 91) (v := ?_) (a' := ?_) #[true, true, false, false, false, false, false, false, false, false, false, false, false, false, false, false, false, false, false, false, false, false, false, false] rfl rfl (any_of HT_.out (by kernel_rfl)) (fun _ _ _ h => h) (Or.inl ⟨by rfl, ?_⟩) ?_ ?_
  rotate_left
  · intro w'
    go_simp
    with_reducible rfl
  rotate_left
  · simp only [Act.put, List.setIfInBounds_toArray, List.set_cons_zero, List.set_cons_succ, i64_w, i32_w]
    rfl
  refine pure_ (i := 3) (N := some 93) (v := ?_) (a' := ?_) #[true, true, false, true, false, false, false, false, false, false, false, false, false, false, false, false, false, false, false, false, false, false, false, false] rfl rfl (any_of HT_.out (by kernel_rfl)) (fun _ _ _ h => h) (Or.inl ⟨by rfl, ?_⟩) ?_ ?_
  rotate_left
  · intro w'
    go_simp
    with_reducible rfl
  rotate_left
  · simp only [Act.put, List.setIfInBounds_toArray, List.set_cons_zero, List.set_cons_succ, i64_w, i32_w]
    rfl
  refine pure_ (i := 5) (N := some 95) (v := ?_) (a' := ?_) #[true, true, false, true, false, true, false, false, false, false, false, false, false, false, false, false, false, false, false, false, false, false, false, false] rfl rfl (any_of HT_.out (by kernel_rfl)) (fun _ _ _ h => h) (Or.inl ⟨by rfl, ?_⟩) ?_ ?_
  rotate_left
  · intro w'
    go_simp
    with_reducible rfl
  rotate_left
  · simp only [Act.put, List.setIfInBounds_toArray, List.set_cons_zero, List.set_cons_succ, i64_w, i32_w]
    rfl
  refine pure_ (i := 7) (N := some 97) (v := ?_) (a' := ?_) #[true, true, false, true, false, true, false, true, false, false, false, false, false, false, false, false, false, false, false, false, false, false, false, false] rfl rfl (any_of HT_.out (by kernel_rfl)) (fun _ _ _ h => h) (Or.inl ⟨by rfl, ?_⟩) ?_ ?_
  rotate_left
  · intro w'
    go_simp
    with_reducible rfl
  rotate_left
  · simp only [Act.put, List.setIfInBounds_toArray, List.set_cons_zero, List.set_cons_succ, i64_w, i32_w]
    rfl
  refine pure_ (i := 11) (N := some 101) (v := ?_) (a' := ?_) #[true, true, false, true, false, true, false, true, false, false, false, true, false, false, false, false, false, false, false, false, false, false, false, false] rfl rfl (any_of HT_.out (by kernel_rfl)) (fun _ _ _ h => h) (Or.inl ⟨by rfl, ?_⟩) ?_ ?_
  rotate_left
  · intro w'
    go_simp
    with_reducible rfl
  rotate_left
  · simp only [Act.put, List.setIfInBounds_toArray, List.set_cons_zero, List.set_cons_succ, i64_w, i32_w]
    rfl
  refine pure_ (i := 12) (N := some 102) (v := ?_) (a' := ?_) #[true, true, false, true, false, true, false, true, false, false, false, true, true, false, false, false, false, false, false, false, false, false, false, false] rfl rfl (any_of HT_.out (by kernel_rfl)) (fun _ _ _ h => h) (Or.inl ⟨by rfl, ?_⟩) ?_ ?_
  rotate_left
  · intro w'
    go_simp
    with_reducible rfl
  rotate_left
  · simp only [Act.put, List.setIfInBounds_toArray, List.set_cons_zero, List.set_cons_succ, i64_w, i32_w]
    rfl
  refine pure_ (i := 14) (N := some 104) (v := ?_) (a' := ?_) #[true, true, false, true, false, true, false, true, false, false, false, true, true, false, true, false, false, false, false, false, false, false, false, false] rfl rfl (any_of HT_.out (by kernel_rfl)) (fun _ _ _ h => h) (Or.inl ⟨by rfl, ?_⟩) ?_ ?_
  rotate_left
  · intro w'
    go_simp
    with_reducible rfl
  rotate_left
  · simp only [Act.put, List.setIfInBounds_toArray, List.set_cons_zero, List.set_cons_succ, i64_w, i32_w]
    rfl
  refine pure_ (i := 16) (N := some 106) (v := ?_) (a' := ?_) #[true, true, false, true, false, true, false, true, false, false, false, true, true, false, true, false, true, false, false, false, false, false, false, false] rfl rfl (any_of HT_.out (by kernel_rfl)) (fun _ _ _ h => h) (Or.inl ⟨by rfl, ?_⟩) ?_ ?_
  rotate_left
  · intro w'
    go_simp
    with_reducible rfl
  rotate_left
  · simp only [Act.put, List.setIfInBounds_toArray, List.set_cons_zero, List.set_cons_succ, i64_w, i32_w]
    rfl
  refine pure_ (i := 18) (N := some 108) (v := ?_) (a' := ?_) #[true, true, false, true, false, true, false, true, false, false, false, true, true, false, true, false, true, false, true, false, false, false, false, false] rfl rfl (any_of HT_.out (by kernel_rfl)) (fun _ _ _ h => h) (Or.inl ⟨by rfl, ?_⟩) ?_ ?_
  rotate_left
  · intro w'
    go_simp
    with_reducible rfl
  rotate_left
  · simp only [Act.put, List.setIfInBounds_toArray, List.set_cons_zero, List.set_cons_succ, i64_w, i32_w]
    rfl
  refine take_ (i := 2) (N := some 92) (v := ?_) (a' := ?_) #[true, true, true, true, false, true, false, true, false, false, false, true, true, false, true, false, true, false, true, false, false, false, false, false] rfl rfl (take_ofW HT_.out HW_.out (by kernel_rfl)) (fun _ _ _ h => h) (Or.inl ⟨by rfl, ?_⟩) hHeld ?_ ?_
  rotate_left
  · rintro w' ⟨s0, s1, s2, s3, s4, s5, s6, s7⟩
    go_simp
    with_reducible rfl
  rotate_left
  · simp only [Act.put, List.setIfInBounds_toArray, List.set_cons_zero, List.set_cons_succ, i64_w, i32_w]
    rfl
  refine take_ (i := 4) (N := some 94) (v := ?_) (a' := ?_) #[true, true, true, true, true, true, false, true, false, false, false, true, true, false, true, false, true, false, true, false, false, false, false, false] rfl rfl (take_ofW HT_.out HW_.out (by kernel_rfl)) (fun _ _ _ h => h) (Or.inl ⟨by rfl, ?_⟩) hHeld ?_ ?_
  rotate_left
  · rintro w' ⟨s0, s1, s2, s3, s4, s5, s6, s7⟩
    go_simp
    with_reducible rfl
  rotate_left
  · simp only [Act.put, List.setIfInBounds_toArray, List.set_cons_zero, List.set_cons_succ, i64_w, i32_w]
    rfl
  refine take_ (i := 6) (N := some 96) (v := ?_) (a' := ?_) #[true, true, true, true, true, true, true, true, false, false, false, true, true, false, true, false, true, false, true, false, false, false, false, false] rfl rfl (take_ofW HT_.out HW_.out (by kernel_rfl)) (fun _ _ _ h => h) (Or.inl ⟨by rfl, ?_⟩) hHeld ?_ ?_
  rotate_left
  · rintro w' ⟨s0, s1, s2, s3, s4, s5, s6, s7⟩
    go_simp
    with_reducible rfl
  rotate_left
  · simp only [Act.put, List.setIfInBounds_toArray, List.set_cons_zero, List.set_cons_succ, i64_w, i32_w]
    rfl
  refine take_ (i := 8) (N := some 98) (v := ?_) (a' := ?_) #[true, true, true, true, true, true, true, true, true, false, false, true, true, false, true, false, true, false, true, false, false, false, false, false] rfl rfl (take_ofW HT_.out HW_.out (by kernel_rfl)) (fun _ _ _ h => h) (Or.inl ⟨by rfl, ?_⟩) hHeld ?_ ?_
  rotate_left
  · rintro w' ⟨s0, s1, s2, s3, s4, s5, s6, s7⟩
    go_simp
    with_reducible rfl
  rotate_left
  · simp only [Act.put, List.setIfInBounds_toArray, List.set_cons_zero, List.set_cons_succ, i64_w, i32_w]
    rfl
  refine pure_ (i := 9) (N := some 99) (v := ?_) (a' := ?_) #[true, true, true, true, true, true, true, true, true, true, false, true, true, false, true, false, true, false, true, false, false, false, false, false] rfl rfl (any_of HT_.out (by kernel_rfl)) (fun _ _ _ h => h) (Or.inl ⟨by rfl, ?_⟩) ?_ ?_
  rotate_left
  · intro w'
    go_simp
    with_reducible rfl
  rotate_left
  · simp only [Act.put, List.setIfInBounds_toArray, List.set_cons_zero, List.set_cons_succ, i64_w, i32_w]
    rfl
  refine take_ (i := 13) (N := some 103) (v := ?_) (a' := ?_) #[true, true, true, true, true, true, true, true, true, true, false, true, true, true, true, false, true, false, true, false, false, false, false, false] rfl rfl (take_ofW HT_.out HW_.out (by kernel_rfl)) (fun _ _ _ h => h) (Or.inl ⟨by rfl, ?_⟩) hHeld ?_ ?_
  rotate_left
  · rintro w' ⟨s0, s1, s2, s3, s4, s5, s6, s7⟩
    go_simp
    with_reducible rfl
  rotate_left
  · simp only [Act.put, List.setIfInBounds_toArray, List.set_cons_zero, List.set_cons_succ, i64_w, i32_w]
    rfl
  refine take_ (i := 15) (N := some 105) (v := ?_) (a' := ?_) #[true, true, true, true, true, true, true, true, true, true, false, true, true, true, true, true, true, false, true, false, false, false, false, false] rfl rfl (take_ofW HT_.out HW_.out (by kernel_rfl)) (fun _ _ _ h => h) (Or.inl ⟨by rfl, ?_⟩) hHeld ?_ ?_
  rotate_left
  · rintro w' ⟨s0, s1, s2, s3, s4, s5, s6, s7⟩
    go_simp
    with_reducible rfl
  rotate_left
  · simp only [Act.put, List.setIfInBounds_toArray, List.set_cons_zero, List.set_cons_succ, i64_w, i32_w]
    rfl
  refine take_ (i := 17) (N := some 107) (v := ?_) (a' := ?_) #[true, true, true, true, true, true, true, true, true, true, false, true, true, true, true, true, true, true, true, false, false, false, false, false] rfl rfl (take_ofW HT_.out HW_.out (by kernel_rfl)) (fun _ _ _ h => h) (Or.inl ⟨by rfl, ?_⟩) hHeld ?_ ?_
  rotate_left
  · rintro w' ⟨s0, s1, s2, s3, s4, s5, s6, s7⟩
    go_simp
    with_reducible rfl
  rotate_left
  · simp only [Act.put, List.setIfInBounds_toArray, List.set_cons_zero, List.set_cons_succ, i64_w, i32_w]
    rfl
  refine take_ (i := 19) (N := some 109) (v := ?_) (a' := ?_) #[true, true, true, true, true, true, true, true, true, true, false, true, true, true, true, true, true, true, true, true, false, false, false, false] rfl rfl (take_ofW HT_.out HW_.out (by kernel_rfl)) (fun _ _ _ h => h) (Or.inl ⟨by rfl, ?_⟩) hHeld ?_ ?_
  rotate_left
  · rintro w' ⟨s0, s1, s2, s3, s4, s5, s6, s7⟩
    go_simp
    with_reducible rfl
  rotate_left
  · simp only [Act.put, List.setIfInBounds_toArray, List.set_cons_zero, List.set_cons_succ, i64_w, i32_w]
    rfl
  refine pure_ (i := 20) (N := some 110) (v := ?_) (a' := ?_) #[true, true, true, true, true, true, true, true, true, true, false, true, true, true, true, true, true, true, true, true, true, false, false, false] rfl rfl (any_of HT_.out (by kernel_rfl)) (fun _ _ _ h => h) (Or.inl ⟨by rfl, ?_⟩) ?_ ?_
  rotate_left
  · intro w'
    go_simp
    with_reducible rfl
  rotate_left
  · simp only [Act.put, List.setIfInBounds_toArray, List.set_cons_zero, List.set_cons_succ, i64_w, i32_w]
    rfl
  refine one_ (i := 10) (N := some 100) #[true, true, true, true, true, true, true, true, true, true, true, true, true, true, true, true, true, true, true, true, true, false, false, false] rfl rfl (one_of HT_.out (by kernel_rfl)) (by decide) (fun K hK => ?_)
  refine goesT_ (t := 90) Try.func68 (by kernel_rfl) rfl #[] #[.int .i64 Q1] (by rfl) rfl rfl (by first | rfl | (go_simp; done) | (go_simp; rfl)) (by (try simp only [List.map_toArray, List.map_cons, List.map_nil]); first | done | rfl | (go_simp; done) | (go_simp; rfl)) ?_
  with_reducible refine (affine_Box_2.calls Q1 t332 _ A37.out).mono ?_
  rintro e w163 ⟨rfl, hb⟩
  refine ⟨_, rfl, ?_⟩
  replace E0 := zk E0 hb
  replace E1 := zk E1 hb
  replace E2 := zk E2 hb
  replace E9 := zk E9 hb
  replace G0 := zk G0 hb
  replace G1 := zk G1 hb
  replace G2 := zk G2 hb
  replace HB := zb HB hb
  (try clear hb)
  (try clear hb2)
  (try clear hk)
  (try clear hi)
  refine hK.out _ _ ⟨(blk_cell E9.out 0).trans rfl, (blk_cell E9.out 1).trans rfl, (blk_cell G0.out 0).trans rfl, (blk_cell G0.out 1).trans rfl, (blk_cell G1.out 0).trans rfl, (blk_cell G1.out 1).trans rfl, (blk_cell G2.out 0).trans rfl, (blk_cell G2.out 1).trans rfl⟩ (fun hHeld => ?_)
  clear hK K
  refine norm_ (a' := ?_) ?_ ?_
  rotate_left
  · show Act.put _ (some 100) _ = _
    simp only [Act.put, List.setIfInBounds_toArray, List.set_cons_zero, List.set_cons_succ, i64_w, i32_w]
    rfl
  refine one_ (i := 21) (N := some 111) #[true, true, true, true, true, true, true, true, true, true, true, true, true, true, true, true, true, true, true, true, true, true, false, false] rfl rfl (one_of HT_.out (by kernel_rfl)) (by decide) (fun K hK => ?_)
  refine goesT_ (t := 101) Try.func69 (by kernel_rfl) rfl #[] #[.int .i64 Q2] (by rfl) rfl rfl (by first | rfl | (go_simp; done) | (go_simp; rfl)) (by (try simp only [List.map_toArray, List.map_cons, List.map_nil]); first | done | rfl | (go_simp; done) | (go_simp; rfl)) ?_
  with_reducible refine (affine_Box_3.calls Q2 t333 _ A41.out).mono ?_
  rintro e w164 ⟨rfl, hb⟩
  refine ⟨_, rfl, ?_⟩
  replace E0 := zk E0 hb
  replace E1 := zk E1 hb
  replace E2 := zk E2 hb
  replace E9 := zk E9 hb
  replace G0 := zk G0 hb
  replace G1 := zk G1 hb
  replace G2 := zk G2 hb
  replace HB := zb HB hb
  (try clear hb)
  (try clear hb2)
  (try clear hk)
  (try clear hi)
  refine hK.out _ _ ⟨(blk_cell E9.out 0).trans rfl, (blk_cell E9.out 1).trans rfl, (blk_cell G0.out 0).trans rfl, (blk_cell G0.out 1).trans rfl, (blk_cell G1.out 0).trans rfl, (blk_cell G1.out 1).trans rfl, (blk_cell G2.out 0).trans rfl, (blk_cell G2.out 1).trans rfl⟩ (fun hHeld => ?_)
  clear hK K
  refine norm_ (a' := ?_) ?_ ?_
  rotate_left
  · show Act.put _ (some 111) _ = _
    simp only [Act.put, List.setIfInBounds_toArray, List.set_cons_zero, List.set_cons_succ, i64_w, i32_w]
    rfl
  refine pure_ (i := 22) (N := some 16) (v := ?_) (a' := ?_) #[true, true, true, true, true, true, true, true, true, true, true, true, true, true, true, true, true, true, true, true, true, true, true, false] rfl rfl (any_of HT_.out (by kernel_rfl)) (fun _ _ _ h => h) (Or.inl ⟨by rfl, ?_⟩) ?_ ?_
  rotate_left
  · intro w'
    go_simp
    with_reducible rfl
  rotate_left
  · simp only [Act.put, List.setIfInBounds_toArray, List.set_cons_zero, List.set_cons_succ, i64_w, i32_w]
    rfl
  refine pure_ (i := 23) (N := some 17) (v := ?_) (a' := ?_) #[true, true, true, true, true, true, true, true, true, true, true, true, true, true, true, true, true, true, true, true, true, true, true, true] rfl rfl (any_of HT_.out (by kernel_rfl)) (fun _ _ _ h => h) (Or.inl ⟨by rfl, ?_⟩) ?_ ?_
  rotate_left
  · intro w'
    go_simp
    with_reducible rfl
  rotate_left
  · simp only [Act.put, List.setIfInBounds_toArray, List.set_cons_zero, List.set_cons_succ, i64_w, i32_w]
    rfl
  refine done_ (done_of HT_.out (by kernel_rfl)) ?_
  have H := HX_.out
  clear HX_
  by_cases c42 : t330 ≥ t331
  · rw [if_pos c42] at H
    have E0q : decide (t331 ≤ t330) = true := decide_eq_true c42
    clear c42
    simp only [Option.some.injEq, Prod.mk.injEq] at H
    obtain ⟨rfl, rfl, rfl, rfl, rfl⟩ := H
    have E4U := Z1.out
    have E4V := L5.out
    have E4W := Z2.out
    have E4X := L6.out
    have E4Y := Z3.out
    have E4Z := L7.out
    have E5a := Z4.out
    have E5b := L8.out
    obtain ⟨E5c, E5d, E5e, E5f, E5g, E5h, E5i, E5j⟩ := zq4 E2
    try go_wp2
    refine bodyPost_ret (results_ct rfl _ _ G3 27 #[.int .i64 0, .int .i64 0, .int .i64 0, .int .i64 0] (0, 0) _ rfl (by exact zp E2 rfl) Try.underlying27 rfl (by kernel_rfl)) rfl ?_
    exact ⟨by first | rfl | (simp [errW_none, errW_some] <;> rfl) | (simp only [← V3, ← V4, ← V5, ← V0, ← V1, ← V2, ← G7, ← G8, ← G9, ← G4, ← G5, ← G6]; first | rfl | (simp [errW_none, errW_some] <;> rfl)) | (simp [*, errW_none, errW_some] <;> rfl), by exact zbo HB Y4⟩
  rw [if_neg c42] at H
  have E0q : decide (t331 ≤ t330) = false := decide_eq_false c42
  clear c42
  by_cases c85 : t332 ≥ t333
  · rw [if_pos c85] at H
    have E0r : decide (t333 ≤ t332) = true := decide_eq_true c85
    clear c85
    simp only [Option.some.injEq, Prod.mk.injEq] at H
    obtain ⟨rfl, rfl, rfl, rfl, rfl⟩ := H
    have E5k := Z1.out
    have E5l := L5.out
    have E5m := Z2.out
    have E5n := L6.out
    have E5o := Z3.out
    have E5p := L7.out
    have E5q := Z4.out
    have E5r := L8.out
    obtain ⟨E5s, E5t, E5u, E5v, E5w, E5x, E5y, E5z⟩ := zq4 E2
    try go_wp2
    refine bodyPost_ret (results_ct rfl _ _ G3 27 #[.int .i64 0, .int .i64 0, .int .i64 0, .int .i64 0] (0, 0) _ rfl (by exact zp E2 rfl) Try.underlying27 rfl (by kernel_rfl)) rfl ?_
    exact ⟨by first | rfl | (simp [errW_none, errW_some] <;> rfl) | (simp only [← V3, ← V4, ← V5, ← V0, ← V1, ← V2, ← G7, ← G8, ← G9, ← G4, ← G5, ← G6]; first | rfl | (simp [errW_none, errW_some] <;> rfl)) | (simp [*, errW_none, errW_some] <;> rfl), by exact zbo HB Y4⟩
  rw [if_neg c85] at H
  have E0r : decide (t333 ≤ t332) = false := decide_eq_false c85
  clear c85
  simp only [Option.some.injEq, Prod.mk.injEq] at H
  obtain ⟨rfl, rfl, rfl, rfl, rfl⟩ := H
  have E5A := Z1.out
  have E5B := L5.out
  have E5C := Z2.out
  have E5D := L6.out
  have E5E := Z3.out
  have E5F := L7.out
  have E5G := Z4.out
  have E5H := L8.out
  obtain ⟨E5I, E5J, E5K, E5L, E5M, E5N, E5O, E5P⟩ := zq4 E2
  try go_wp2
  refine bodyPost_ret (results_ct rfl _ _ G3 27 #[.int .i64 t330, .int .i64 t332, .int .i64 (wrap64 (t331 - t330)), .int .i64 (wrap64 (t333 - t332))] (0, 0) _ rfl (by exact zp E2 rfl) Try.underlying27 rfl (by kernel_rfl)) rfl ?_
  exact ⟨by first | rfl | (simp [errW_none, errW_some] <;> rfl) | (simp only [← V3, ← V4, ← V5, ← V0, ← V1, ← V2, ← G7, ← G8, ← G9, ← G4, ← G5, ← G6]; first | rfl | (simp [errW_none, errW_some] <;> rfl)) | (simp [*, errW_none, errW_some] <;> rfl), by exact zbo HB Y4⟩
end Go.Proofs.Ytapdifpmijgkcaa.G
