/- Contracts of functions of the program, each as it is called: what it computes (.f), that it computes no less with more rounds (.mono), and that a call returns just that (.calls). No conditions but those that each contract names. Written by a program of this session (wip/gx.py over the kit's print). -/
import Derived.Test.YtapdifpmijgkcaaG0
import Derived.Test.YtapdifpmijgkcaaG1
import Derived.Test.YtapdifpmijgkcaaG4
import Derived.Test.YtapdifpmijgkcaaG7
namespace Go.Proofs.Ytapdifpmijgkcaa.G
open Go.RowKit Go.Proofs.YtapdifpmijgkcaaW.PrintWords Go.Proofs.YtapdifpmijgkcaaW.PrintLast Go.Proofs.YtapdifpmijgkcaaW.PrintMore
attribute [local go_sem] max2_int min2_int max_two min_two max_three min_three max_four min_four   -- for this text's walks alone
set_option linter.unusedVariables false
set_option linter.unusedSimpArgs false


attribute [local go_sem high] eqA37
/-! ### imageeditorlaw14_same: function 14 -/
mutual
def imageeditorlaw14_same.j0 : Nat → Bool → Int → Int → List (S37) → Int → Int → List (S37) → Option (Bool)
 | 0, _, _, _, _, _, _, _ => none
 | k + 1, x26, G5, G6, E2, G7, G8, E3 => if x26 = true then (some false) else (imageeditorlaw14_same.l0 k (E2.length : Int) 0 G5 G6 E2 G7 G8 E3)
def imageeditorlaw14_same.l0 : Nat → Int → Int → Int → Int → List (S37) → Int → Int → List (S37) → Option (Bool)
 | 0, _, _, _, _, _, _, _, _ => none
 | k + 1, x29, x30, G5, G6, E2, G7, G8, E3 => if x30 < x29 then (if 0 ≤ x30 then (if x30 < (E2.length : Int) then (if x30 < (E3.length : Int) then (if (!(((rd_T37 E2 x30).f0) == ((rd_T37 E3 x30).f0)) || (!(((rd_T37 E2 x30).f1) == ((rd_T37 E3 x30).f1)) || (!(((rd_T37 E2 x30).f2) == ((rd_T37 E3 x30).f2)) || (!(((rd_T37 E2 x30).f3) == ((rd_T37 E3 x30).f3)))))) = true then (some false) else (imageeditorlaw14_same.l0 k x29 (wrap64 (x30 + 1)) G5 G6 E2 G7 G8 E3)) else (none)) else (none)) else (none)) else (some true)
end
def imageeditorlaw14_same.f (k : Nat) (a0_0 : Int) (a0_1 : Int) (l0_2 : List (S37)) (a1_0 : Int) (a1_1 : Int) (l1_2 : List (S37)) : Option (Bool) := if a0_0 = a1_0 then (if a0_1 = a1_1 then (imageeditorlaw14_same.j0 k ((l0_2.length : Int) != (l1_2.length : Int)) a0_0 a0_1 l0_2 a1_0 a1_1 l1_2) else (imageeditorlaw14_same.j0 k true a0_0 a0_1 l0_2 a1_0 a1_1 l1_2)) else (imageeditorlaw14_same.j0 k true a0_0 a0_1 l0_2 a1_0 a1_1 l1_2)
theorem imageeditorlaw14_same.mono_l : ∀ k, (∀ y0 y1 y2 y3 y4 y5 y6, LeO (imageeditorlaw14_same.j0 k y0 y1 y2 y3 y4 y5 y6) (imageeditorlaw14_same.j0 (k + 1) y0 y1 y2 y3 y4 y5 y6)) ∧ (∀ y0 y1 y2 y3 y4 y5 y6 y7, LeO (imageeditorlaw14_same.l0 k y0 y1 y2 y3 y4 y5 y6 y7) (imageeditorlaw14_same.l0 (k + 1) y0 y1 y2 y3 y4 y5 y6 y7))
 | 0 => ⟨fun _ _ _ _ _ _ _ r h => by simp [imageeditorlaw14_same.j0] at h, fun _ _ _ _ _ _ _ _ r h => by simp [imageeditorlaw14_same.l0] at h⟩
 | k + 1 => by
  obtain ⟨ih0, ih1⟩ := imageeditorlaw14_same.mono_l k
  refine ⟨?_, ?_⟩
  ·intro y0 y1 y2 y3 y4 y5 y6
   unfold imageeditorlaw14_same.j0
   repeat' first
   | (with_reducible exact ih0 _ _ _ _ _ _ _)
   | (with_reducible exact ih1 _ _ _ _ _ _ _ _)
   | (with_reducible exact LeO.refl _)
   | (with_reducible exact LeO.none _)
   | (with_reducible refine LeO.ite ?_ ?_)
   | (with_reducible refine LeO.bind ?_ (fun _ => ?_))
   | exact ih0 _ _ _ _ _ _ _
   | exact ih1 _ _ _ _ _ _ _ _
   | exact LeO.none _
   | refine LeO.ite ?_ ?_
   | refine LeO.bind ?_ (fun _ => ?_)
  ·intro y0 y1 y2 y3 y4 y5 y6 y7
   unfold imageeditorlaw14_same.l0
   repeat' first
   | (with_reducible exact ih0 _ _ _ _ _ _ _)
   | (with_reducible exact ih1 _ _ _ _ _ _ _ _)
   | (with_reducible exact LeO.refl _)
   | (with_reducible exact LeO.none _)
   | (with_reducible refine LeO.ite ?_ ?_)
   | (with_reducible refine LeO.bind ?_ (fun _ => ?_))
   | exact ih0 _ _ _ _ _ _ _
   | exact ih1 _ _ _ _ _ _ _ _
   | exact LeO.none _
   | refine LeO.ite ?_ ?_
   | refine LeO.bind ?_ (fun _ => ?_)
theorem imageeditorlaw14_same.mono : ∀ a0 a1 a2 a3 a4 a5 k, LeO (imageeditorlaw14_same.f k a0 a1 a2 a3 a4 a5) (imageeditorlaw14_same.f (k + 1) a0 a1 a2 a3 a4 a5) := by
 intro a0 a1 a2 a3 a4 a5 k
 obtain ⟨ih0, ih1⟩ := imageeditorlaw14_same.mono_l k
 unfold imageeditorlaw14_same.f
 repeat' first
   | (with_reducible exact ih0 _ _ _ _ _ _ _)
   | (with_reducible exact ih1 _ _ _ _ _ _ _ _)
   | (with_reducible exact LeO.refl _)
   | (with_reducible exact LeO.none _)
   | (with_reducible refine LeO.ite ?_ ?_)
   | (with_reducible refine LeO.bind ?_ (fun _ => ?_))
   | exact ih0 _ _ _ _ _ _ _
   | exact ih1 _ _ _ _ _ _ _ _
   | exact LeO.none _
   | refine LeO.ite ?_ ?_
   | refine LeO.bind ?_ (fun _ => ?_)
set_option maxHeartbeats 8000000 in
set_option maxRecDepth 100000 in
theorem imageeditorlaw14_same.calls (k : Nat) (a0_0 : Int) (a0_1 : Int) (A0_2 : Option Addr) (c0_2 : Nat) (l0_2 : List (S37)) (a1_0 : Int) (a1_1 : Int) (A1_2 : Option Addr) (c1_2 : Nat) (l1_2 : List (S37)) (r : Bool) (w : World) (hr0_2 : Kd.C k37 w A0_2 l0_2.length l0_2) (hc0_2 : l0_2.length ≤ c0_2) (hr1_2 : Kd.C k37 w A1_2 l1_2.length l1_2) (hc1_2 : l1_2.length ≤ c1_2) (h : imageeditorlaw14_same.f k a0_0 a0_1 l0_2 a1_0 a1_1 l1_2 = some r) :
  Calls Try.prog 14 #[.agg #[.int .i64 a0_0, .int .i64 a0_1, .slice A0_2 l0_2.length c0_2], .agg #[.int .i64 a1_0, .int .i64 a1_1, .slice A1_2 l1_2.length c1_2]] w fun e w' => e = .returned (.bool r) ∧ Below w.heap.size w w' := by
 have hu24 := Try.underlying24
 have hu37 := Try.underlying37
 have V2 := Aside0.mk hr0_2
 have Q6 := Aside0.mk hc0_2
 clear hr0_2 hc0_2
 have V3 := Aside0.mk hr1_2
 have Q7 := Aside0.mk hc1_2
 clear hr1_2 hc1_2
 have HB := Aside0.mk (Below.refl w.heap.size w)
 have H : (if a0_0 = a1_0 then (if a0_1 = a1_1 then (imageeditorlaw14_same.j0 k ((l0_2.length : Int) != (l1_2.length : Int)) a0_0 a0_1 l0_2 a1_0 a1_1 l1_2) else (imageeditorlaw14_same.j0 k true a0_0 a0_1 l0_2 a1_0 a1_1 l1_2)) else (imageeditorlaw14_same.j0 k true a0_0 a0_1 l0_2 a1_0 a1_1 l1_2)) = some r := h
 clear h
 have HC3 := Aside0.mk H
 clear H
 go_enter Try.func14, Try.ntmps14
 go_upto_region 1 with (first | ((with_reducible refine gate_dst (N := 2) rfl ?_); (try (refine gate_guard (by rfl) ?_; dsimp only)); refine box_event ?hg (N := 2) ?hd (cs := #[.int .i64 a0_0, .int .i64 a0_1, .slice A0_2 l0_2.length c0_2]) (t := 24) ?hr ?_; (case hd => rfl); (case hg => rfl); (case hr => first | (go_simp; done) | (go_simp; rfl)); intro G3 hg w4 hbox hb; have V4 := zg HB hg; have V5 := zg HB hg; have n0_ := Aside0.mk (hbox); replace HB := zb HB hb; have E0 := n0_; clear n0_; clear hb hbox hg) | ((with_reducible refine gate_dst (N := 3) rfl ?_); (try (refine gate_guard (by rfl) ?_; dsimp only)); refine box_event ?hg (N := 3) ?hd (cs := #[.int .i64 a1_0, .int .i64 a1_1, .slice A1_2 l1_2.length c1_2]) (t := 24) ?hr ?_; (case hd => rfl); (case hg => rfl); (case hr => first | (go_simp; done) | (go_simp; rfl)); intro G4 hg w5 hbox hb; have V6 := zg HB hg; have V7 := zg HB hg; have V8 := zn E0 hg; have V9 := zn' E0 hg; have n0_ := Aside0.mk (hbox); replace E0 := zk E0 hb; replace HB := zb HB hb; have E1 := n0_; clear n0_; clear hb hbox hg))
 repeat (go_quiet (first | ((with_reducible refine gate_dst (N := 2) rfl ?_); (try (refine gate_guard (by rfl) ?_; dsimp only)); refine box_event ?hg (N := 2) ?hd (cs := #[.int .i64 a0_0, .int .i64 a0_1, .slice A0_2 l0_2.length c0_2]) (t := 24) ?hr ?_; (case hd => rfl); (case hg => rfl); (case hr => first | (go_simp; done) | (go_simp; rfl)); intro G3 hg w4 hbox hb; have V4 := zg HB hg; have V5 := zg HB hg; have n0_ := Aside0.mk (hbox); replace HB := zb HB hb; have E0 := n0_; clear n0_; clear hb hbox hg) | ((with_reducible refine gate_dst (N := 3) rfl ?_); (try (refine gate_guard (by rfl) ?_; dsimp only)); refine box_event ?hg (N := 3) ?hd (cs := #[.int .i64 a1_0, .int .i64 a1_1, .slice A1_2 l1_2.length c1_2]) (t := 24) ?hr ?_; (case hd => rfl); (case hg => rfl); (case hr => first | (go_simp; done) | (go_simp; rfl)); intro G4 hg w5 hbox hb; have V6 := zg HB hg; have V7 := zg HB hg; have V8 := zn E0 hg; have V9 := zn' E0 hg; have n0_ := Aside0.mk (hbox); replace E0 := zk E0 hb; replace HB := zb HB hb; have E1 := n0_; clear n0_; clear hb hbox hg)); go_upto_region 1 with (first | ((with_reducible refine gate_dst (N := 2) rfl ?_); (try (refine gate_guard (by rfl) ?_; dsimp only)); refine box_event ?hg (N := 2) ?hd (cs := #[.int .i64 a0_0, .int .i64 a0_1, .slice A0_2 l0_2.length c0_2]) (t := 24) ?hr ?_; (case hd => rfl); (case hg => rfl); (case hr => first | (go_simp; done) | (go_simp; rfl)); intro G3 hg w4 hbox hb; have V4 := zg HB hg; have V5 := zg HB hg; have n0_ := Aside0.mk (hbox); replace HB := zb HB hb; have E0 := n0_; clear n0_; clear hb hbox hg) | ((with_reducible refine gate_dst (N := 3) rfl ?_); (try (refine gate_guard (by rfl) ?_; dsimp only)); refine box_event ?hg (N := 3) ?hd (cs := #[.int .i64 a1_0, .int .i64 a1_1, .slice A1_2 l1_2.length c1_2]) (t := 24) ?hr ?_; (case hd => rfl); (case hg => rfl); (case hr => first | (go_simp; done) | (go_simp; rfl)); intro G4 hg w5 hbox hb; have V6 := zg HB hg; have V7 := zg HB hg; have V8 := zn E0 hg; have V9 := zn' E0 hg; have n0_ := Aside0.mk (hbox); replace E0 := zk E0 hb; replace HB := zb HB hb; have E1 := n0_; clear n0_; clear hb hbox hg)))
 (try simp only [Act.put, sA, sB, sC])
 go_cut [26] (fun v26 wc => ∃ (kq : Nat) (x26_2 : Bool), v26 = .bool x26_2 ∧ Aside0 (imageeditorlaw14_same.j0 kq x26_2 a0_0 a0_1 l0_2 a1_0 a1_1 l1_2 = some r) ∧ Aside0 (kq ≤ k) ∧ Aside0 (wc.heap[G3]? = some (.cells #[.int .i64 a0_0, .int .i64 a0_1, (.slice A0_2 l0_2.length c0_2)] 24 (0, 0))) ∧ Aside0 (wc.heap[G4]? = some (.cells #[.int .i64 a1_0, .int .i64 a1_1, (.slice A1_2 l1_2.length c1_2)] 24 (0, 0))) ∧ Aside0 (Below w.heap.size w wc))
 case first =>
  have H := HC3.out
  clear HC3
  by_cases c6 : a0_0 = a1_0
  rotate_left
  ·rw [if_neg c6] at H
   have E4 : (a0_0 == a1_0) = false := beq_eq_false_iff_ne.mpr c6
   have G9 : (a0_0 != a1_0) = true := bne_iff_ne.mpr c6
   (first | rw [E4] | (simp only [i64_w, i32_w]; rw [E4]) | skip)
   have H' := Aside0.mk H
   clear H
   obtain ⟨Y0, Y1, Y2, Y3, Y4, Y5⟩ := zq3 E0
   obtain ⟨Y6, Y7, Y8, Y9, Z0, Z1⟩ := zq3 E1
   go_wp2
   repeat (go_quiet (fail); try go_wp2)
   go_meet
   case rel => exact ⟨_, (true), (by first | rfl | (simp; done) | (simp [*]; done)), H', ⟨by first | omega | exact Nat.le_refl _⟩, ⟨by exact zk0 E0⟩, ⟨by exact zk0 E1⟩, ⟨by exact zb0 HB⟩⟩
  rw [if_pos c6] at H
  have E4 : (a0_0 == a1_0) = true := beq_iff_eq.mpr c6
  have G9 : (a0_0 != a1_0) = false := bne_eq_false_iff_eq.mpr c6
  clear c6
  (first | rw [E4] | (simp only [i64_w, i32_w]; rw [E4]) | skip)
  by_cases c7 : a0_1 = a1_1
  ·rw [if_pos c7] at H
   have V0 : (a0_1 == a1_1) = true := beq_iff_eq.mpr c7
   have V1 : (a0_1 != a1_1) = false := bne_eq_false_iff_eq.mpr c7
   clear c7
   have H' := Aside0.mk H
   clear H
   obtain ⟨Z2, Z3, Z4, Z5, Z6, Z7⟩ := zq3 E0
   obtain ⟨Z8, Z9, J0, J1, J2, J3⟩ := zq3 E1
   go_wp2
   repeat (go_quiet (fail); try go_wp2)
   go_meet
   case rel => exact ⟨_, (((l0_2.length : Int) != (l1_2.length : Int))), (by first | rfl | (simp; done) | (simp [*]; done)), H', ⟨by first | omega | exact Nat.le_refl _⟩, ⟨by exact zk0 E0⟩, ⟨by exact zk0 E1⟩, ⟨by exact zb0 HB⟩⟩
  rw [if_neg c7] at H
  have V0 : (a0_1 == a1_1) = false := beq_eq_false_iff_ne.mpr c7
  have V1 : (a0_1 != a1_1) = true := bne_iff_ne.mpr c7
  have H' := Aside0.mk H
  clear H
  obtain ⟨J4, J5, J6, J7, J8, J9⟩ := zq3 E0
  obtain ⟨L0, L1, L2, L3, L4, L5⟩ := zq3 E1
  go_wp2
  repeat (go_quiet (fail); try go_wp2)
  go_meet
  case rel => exact ⟨_, (true), (by first | rfl | (simp; done) | (simp [*]; done)), H', ⟨by first | omega | exact Nat.le_refl _⟩, ⟨by exact zk0 E0⟩, ⟨by exact zk0 E1⟩, ⟨by exact zb0 HB⟩⟩
 case rest =>
  clear HC3
  try clear c1
  try clear p2
  try clear q3
  try clear c6
  try clear E4
  try clear G9
  try clear c7
  try clear V0
  try clear V1
  try clear J4
  try clear J5
  try clear J6
  try clear L0
  try clear L1
  try clear L2
  try clear Y0
  try clear Y1
  try clear Y2
  try clear Y6
  try clear Y7
  try clear Y8
  try clear Z2
  try clear Z3
  try clear Z4
  try clear Z8
  try clear Z9
  try clear J0
  try clear J7
  try clear J8
  try clear J9
  try clear L3
  try clear L4
  try clear L5
  try clear Y3
  try clear Y4
  try clear Y5
  try clear Y9
  try clear Z0
  try clear Z1
  try clear Z5
  try clear Z6
  try clear Z7
  try clear J1
  try clear J2
  try clear J3
  obtain ⟨kq, x26_2, rfl, HA, HJ2, E0, E1, HB⟩ := hcut
  cases kq with
  | zero => exact absurd HA.out (by simp [imageeditorlaw14_same.j0])
  | succ kj2 =>
   have H := HA.out
   clear HA
   simp only [imageeditorlaw14_same.j0] at H
   by_cases c14 : x26_2 = true
   ·subst c14
    rw [if_pos rfl] at H
    obtain rfl := Option.some.inj H
    go_wp2
    repeat (go_quiet (fail); try go_wp2)
    go_ret
    exact ⟨by first | rfl | (simp [errW_none, errW_some] <;> rfl) | (simp [*, errW_none, errW_some] <;> rfl), by exact zb0 HB⟩
   replace c14 := Bool.eq_false_iff.mpr c14
   subst c14
   rw [if_neg (show ¬ (false = true) by decide)] at H
   have H' := Aside0.mk H
   clear H
   obtain ⟨L6, L7, L8, L9, Q0, Q1⟩ := zq3 E0
   go_wp2
   repeat (go_quiet (fail); try go_wp2)
   go_loopg [30] kj2 (fun kq v30 w' => ∃ (x30_2 : Int), v30 = .int .i64 x30_2 ∧ Aside0 (imageeditorlaw14_same.l0 kq (l0_2.length : Int) x30_2 a0_0 a0_1 l0_2 a1_0 a1_1 l1_2 = some r) ∧ Aside0 (kq ≤ kj2) ∧ Aside0 (w'.heap[G3]? = some (.cells #[.int .i64 a0_0, .int .i64 a0_1, (.slice A0_2 l0_2.length c0_2)] 24 (0, 0))) ∧ Aside0 (w'.heap[G4]? = some (.cells #[.int .i64 a1_0, .int .i64 a1_1, (.slice A1_2 l1_2.length c1_2)] 24 (0, 0))) ∧ Aside0 (Below w.heap.size w w'))
   case atStart => exact ⟨(0), (by first | rfl | (simp; done) | (simp [*]; done)), H', ⟨Nat.le_refl _⟩, ⟨by exact zk0 E0⟩, ⟨by exact zk0 E1⟩, ⟨by exact zb0 HB⟩⟩
   case round =>
    clear H'
    try clear c1
    try clear p2
    try clear q3
    try clear c6
    try clear E4
    try clear G9
    try clear c7
    try clear V0
    try clear V1
    try clear c14
    try clear J4
    try clear J5
    try clear J6
    try clear L0
    try clear L1
    try clear L2
    try clear Y0
    try clear Y1
    try clear Y2
    try clear Y6
    try clear Y7
    try clear Y8
    try clear L6
    try clear L7
    try clear L8
    try clear Z2
    try clear Z3
    try clear Z4
    try clear Z8
    try clear Z9
    try clear J0
    try clear J7
    try clear J8
    try clear J9
    try clear L3
    try clear L4
    try clear L5
    try clear Y3
    try clear Y4
    try clear Y5
    try clear Y9
    try clear Z0
    try clear Z1
    try clear L9
    try clear Q0
    try clear Q1
    try clear Z5
    try clear Z6
    try clear Z7
    try clear J1
    try clear J2
    try clear J3
    try clear p2
    try clear q3
    obtain ⟨x30_2, rfl, HA, HK2, E0, E1, HB⟩ := hrel
    cases gk with
    | zero => exact absurd HA.out (by simp [imageeditorlaw14_same.l0])
    | succ k2 =>
     have H := HA.out
     clear HA
     simp only [imageeditorlaw14_same.l0] at H
     by_cases c16 : x30_2 < (l0_2.length : Int)
     rotate_left
     ·rw [if_neg c16] at H
      have Q2 : decide (x30_2 < (l0_2.length : Int)) = false := decide_eq_false c16
      clear c16
      obtain rfl := Option.some.inj H
      go_wp2
      repeat (go_quiet (fail); try go_wp2)
      go_ret
      exact ⟨by first | rfl | (simp [errW_none, errW_some] <;> rfl) | (simp [*, errW_none, errW_some] <;> rfl), by exact zb0 HB⟩

     rw [if_pos c16] at H
     have Q2 : decide (x30_2 < (l0_2.length : Int)) = true := decide_eq_true c16
     clear c16
     by_cases c17 : 0 ≤ x30_2
     rotate_left
     ·rw [if_neg c17] at H
      exact absurd H (by simp)
     rw [if_pos c17] at H
     have Q8 : decide (0 ≤ x30_2) = true := decide_eq_true c17
     clear c17
     by_cases c18 : x30_2 < (l0_2.length : Int)
     rotate_left
     ·rw [if_neg c18] at H
      exact absurd H (by simp)
     rw [if_pos c18] at H
     have Q9 : decide (x30_2 < (l0_2.length : Int)) = true := decide_eq_true c18
     clear c18
     by_cases c19 : x30_2 < (l1_2.length : Int)
     rotate_left
     ·rw [if_neg c19] at H
      exact absurd H (by simp)
     rw [if_pos c19] at H
     have E0a : decide (x30_2 < (l1_2.length : Int)) = true := decide_eq_true c19
     clear c19
     by_cases c20 : (!(((rd_T37 l0_2 x30_2).f0) == ((rd_T37 l1_2 x30_2).f0)) || (!(((rd_T37 l0_2 x30_2).f1) == ((rd_T37 l1_2 x30_2).f1)) || (!(((rd_T37 l0_2 x30_2).f2) == ((rd_T37 l1_2 x30_2).f2)) || (!(((rd_T37 l0_2 x30_2).f3) == ((rd_T37 l1_2 x30_2).f3)))))) = true
     ·rw [if_pos c20] at H
      have Q3 : (!(((rd_T37 l0_2 x30_2).f0) == ((rd_T37 l1_2 x30_2).f0)) || (!(((rd_T37 l0_2 x30_2).f1) == ((rd_T37 l1_2 x30_2).f1)) || (!(((rd_T37 l0_2 x30_2).f2) == ((rd_T37 l1_2 x30_2).f2)) || (!(((rd_T37 l0_2 x30_2).f3) == ((rd_T37 l1_2 x30_2).f3)))))) = true := c20
      clear c20
      obtain rfl := Option.some.inj H
      obtain ⟨E0b, E0c, E0d, E0e, E0f, E0g⟩ := zq3 E0
      have p279 : 0 ≤ (x30_2 : Int) := of_decide_eq_true (by first | (with_reducible assumption) | assumption)
      have q279 : x30_2 < (l0_2.length : Int) := of_decide_eq_true (by first | (with_reducible assumption) | assumption)
      obtain ⟨Q4, e279, E5, E6, E7, E8⟩ := at_T37 V2.out x30_2 p279 q279
      cases e279
      replace E5 := (HB.out.cell (World.block_lt_of_cell? w _ E5)).trans E5
      replace E6 := (HB.out.cell (World.block_lt_of_cell? w _ E6)).trans E6
      replace E7 := (HB.out.cell (World.block_lt_of_cell? w _ E7)).trans E7
      replace E8 := (HB.out.cell (World.block_lt_of_cell? w _ E8)).trans E8
      replace p279 := eq_true p279
      replace q279 := eq_true q279
      obtain ⟨E0h, E0i, E0j, E0k, E0l, E0m⟩ := zq3 E1
      have p280 : 0 ≤ (x30_2 : Int) := of_decide_eq_true (by first | (with_reducible assumption) | assumption)
      have q280 : x30_2 < (l1_2.length : Int) := of_decide_eq_true (by first | (with_reducible assumption) | assumption)
      obtain ⟨Q5, e280, E9, G0, G1, G2⟩ := at_T37 V3.out x30_2 p280 q280
      cases e280
      replace E9 := (HB.out.cell (World.block_lt_of_cell? w _ E9)).trans E9
      replace G0 := (HB.out.cell (World.block_lt_of_cell? w _ G0)).trans G0
      replace G1 := (HB.out.cell (World.block_lt_of_cell? w _ G1)).trans G1
      replace G2 := (HB.out.cell (World.block_lt_of_cell? w _ G2)).trans G2
      replace p280 := eq_true p280
      replace q280 := eq_true q280
      go_wp2
      repeat (go_quiet (fail); try go_wp2)
      go_ret
      exact ⟨by first | rfl | (simp [errW_none, errW_some] <;> rfl) | (simp [*, errW_none, errW_some] <;> rfl), by exact zb0 HB⟩
     rw [if_neg c20] at H
     have Q3 : (!(((rd_T37 l0_2 x30_2).f0) == ((rd_T37 l1_2 x30_2).f0)) || (!(((rd_T37 l0_2 x30_2).f1) == ((rd_T37 l1_2 x30_2).f1)) || (!(((rd_T37 l0_2 x30_2).f2) == ((rd_T37 l1_2 x30_2).f2)) || (!(((rd_T37 l0_2 x30_2).f3) == ((rd_T37 l1_2 x30_2).f3)))))) = false := by simpa using c20
     clear c20
     have H' := Aside0.mk H
     clear H
     obtain ⟨E0n, E0o, E0p, E0q, E0r, E0s⟩ := zq3 E0
     have p279 : 0 ≤ (x30_2 : Int) := of_decide_eq_true (by first | (with_reducible assumption) | assumption)
     have q279 : x30_2 < (l0_2.length : Int) := of_decide_eq_true (by first | (with_reducible assumption) | assumption)
     obtain ⟨Q4, e279, E5, E6, E7, E8⟩ := at_T37 V2.out x30_2 p279 q279
     cases e279
     replace E5 := (HB.out.cell (World.block_lt_of_cell? w _ E5)).trans E5
     replace E6 := (HB.out.cell (World.block_lt_of_cell? w _ E6)).trans E6
     replace E7 := (HB.out.cell (World.block_lt_of_cell? w _ E7)).trans E7
     replace E8 := (HB.out.cell (World.block_lt_of_cell? w _ E8)).trans E8
     replace p279 := eq_true p279
     replace q279 := eq_true q279
     obtain ⟨E0t, E0u, E0v, E0w, E0x, E0y⟩ := zq3 E1
     have p280 : 0 ≤ (x30_2 : Int) := of_decide_eq_true (by first | (with_reducible assumption) | assumption)
     have q280 : x30_2 < (l1_2.length : Int) := of_decide_eq_true (by first | (with_reducible assumption) | assumption)
     obtain ⟨Q5, e280, E9, G0, G1, G2⟩ := at_T37 V3.out x30_2 p280 q280
     cases e280
     replace E9 := (HB.out.cell (World.block_lt_of_cell? w _ E9)).trans E9
     replace G0 := (HB.out.cell (World.block_lt_of_cell? w _ G0)).trans G0
     replace G1 := (HB.out.cell (World.block_lt_of_cell? w _ G1)).trans G1
     replace G2 := (HB.out.cell (World.block_lt_of_cell? w _ G2)).trans G2
     replace p280 := eq_true p280
     replace q280 := eq_true q280
     go_wp2
     repeat (go_quiet (fail); try go_wp2)
     go_roundg k2
     case measure => have := HJ2.out; have := HK2.out; omega
     case rel => exact ⟨(wrap64 (x30_2 + 1)), (by first | rfl | (simp; done) | (simp [*]; done)), H', ⟨by have := HJ2.out; have := HK2.out; omega⟩, ⟨by exact zk0 E0⟩, ⟨by exact zk0 E1⟩, ⟨by exact zb0 HB⟩⟩
/-! ### sample_At: function 17 -/
def sample_At.j0 : Nat → Int → Int → Int → Bool → Int → Int → List (S37) → Option (Int × Int × Int × Int)
 | 0, _, _, _, _, _, _, _ => none
 | k + 1, x1, x2, x3, x16, G0, G1, G2 => if x16 = true then (some (0, 0, 0, 0)) else ((sample_limit.f x2).bind fun t285 => ((sample_limit.f x3).bind fun t286 => ((sample_source_at.f k G0 G1 G2 false x1 t285 t286).bind fun E5 => (some (E5.1, E5.2.1, E5.2.2.1, E5.2.2.2)))))
def sample_At.f (k : Nat) (a0_0 : Int) (a0_1 : Int) (l0_2 : List (S37)) (a1 : Int) (a2 : Int) (a3 : Int) : Option (Int × Int × Int × Int) := (kernel_Valid.f a1).bind fun t283 => (if t283 = true then ((raster_Check.f k a0_0 a0_1 l0_2).bind fun t284 => (sample_At.j0 k a1 a2 a3 (t284 != 0) a0_0 a0_1 l0_2)) else (sample_At.j0 k a1 a2 a3 true a0_0 a0_1 l0_2))
theorem sample_At.mono_l : ∀ k, (∀ y0 y1 y2 y3 y4 y5 y6, LeO (sample_At.j0 k y0 y1 y2 y3 y4 y5 y6) (sample_At.j0 (k + 1) y0 y1 y2 y3 y4 y5 y6))
 | 0 => fun _ _ _ _ _ _ _ r h => by simp [sample_At.j0] at h
 | k + 1 => by
  have ih0 := sample_At.mono_l k
  ·intro y0 y1 y2 y3 y4 y5 y6
   unfold sample_At.j0
   repeat' first
   | (with_reducible exact ih0 _ _ _ _ _ _ _)
   | (with_reducible exact raster_Check.mono _ _ _ _)
   | (with_reducible exact sample_source_at.mono _ _ _ _ _ _ _ _)
   | (with_reducible exact LeO.refl _)
   | (with_reducible exact LeO.none _)
   | (with_reducible refine LeO.ite ?_ ?_)
   | (with_reducible refine LeO.bind ?_ (fun _ => ?_))
   | exact ih0 _ _ _ _ _ _ _
   | exact raster_Check.mono _ _ _ _
   | exact sample_source_at.mono _ _ _ _ _ _ _ _
   | exact LeO.none _
   | refine LeO.ite ?_ ?_
   | refine LeO.bind ?_ (fun _ => ?_)
theorem sample_At.mono : ∀ a0 a1 a2 a3 a4 a5 k, LeO (sample_At.f k a0 a1 a2 a3 a4 a5) (sample_At.f (k + 1) a0 a1 a2 a3 a4 a5) := by
 intro a0 a1 a2 a3 a4 a5 k
 have ih0 := sample_At.mono_l k
 unfold sample_At.f
 repeat' first
   | (with_reducible exact ih0 _ _ _ _ _ _ _)
   | (with_reducible exact raster_Check.mono _ _ _ _)
   | (with_reducible exact sample_source_at.mono _ _ _ _ _ _ _ _)
   | (with_reducible exact LeO.refl _)
   | (with_reducible exact LeO.none _)
   | (with_reducible refine LeO.ite ?_ ?_)
   | (with_reducible refine LeO.bind ?_ (fun _ => ?_))
   | exact ih0 _ _ _ _ _ _ _
   | exact raster_Check.mono _ _ _ _
   | exact sample_source_at.mono _ _ _ _ _ _ _ _
   | exact LeO.none _
   | refine LeO.ite ?_ ?_
   | refine LeO.bind ?_ (fun _ => ?_)
def sample_At.T3 : Bool × List (List Nat × List Nat) := (true, [([], []), ([0], [0]), ([], []), ([], []), ([3], [3]), ([], []), ([5, 4], [5]), ([1, 2, 4, 6, 6], [1, 2, 4, 6]), ([7, 7, 0, 1, 2, 3, 4, 5, 6, 7], [7])])
def sample_At.B3 : List Nat := [0, 1, 0, 0, 8, 0, 56, 127, 255]
theorem sample_At.tab3 : rtab .any (opsOf Try.f17 3) = sample_At.T3 := by kernel_rfl
theorem sample_At.bits3 : waitsOk sample_At.T3.2 sample_At.B3 = true := by kernel_rfl
set_option maxHeartbeats 8000000 in
set_option maxRecDepth 100000 in
theorem sample_At.calls (k : Nat) (a0_0 : Int) (a0_1 : Int) (A0_2 : Option Addr) (c0_2 : Nat) (l0_2 : List (S37)) (a1 : Int) (a2 : Int) (a3 : Int) (r1 : Int) (r2 : Int) (r3 : Int) (r4 : Int) (w : World) (hr0_2 : Kd.C k37 w A0_2 l0_2.length l0_2) (hc0_2 : l0_2.length ≤ c0_2) (h : sample_At.f k a0_0 a0_1 l0_2 a1 a2 a3 = some (r1, r2, r3, r4)) :
  Calls Try.prog 17 #[.agg #[.int .i64 a0_0, .int .i64 a0_1, .slice A0_2 l0_2.length c0_2], .int .i64 a1, .int .i64 a2, .int .i64 a3] w fun e w' => e = .returned (.agg #[.int .i64 r1, .int .i64 r2, .int .i64 r3, .int .i64 r4]) ∧ Below w.heap.size w w' := by
 have hu24 := Try.underlying24
 have hu37 := Try.underlying37
 have hu60 := Try.underlying60
 have E7 := Aside0.mk hr0_2
 have E8 := Aside0.mk hc0_2
 clear hr0_2 hc0_2
 have HB := Aside0.mk (Below.refl w.heap.size w)
 have H : ((kernel_Valid.f a1).bind fun t283 => (if t283 = true then ((raster_Check.f k a0_0 a0_1 l0_2).bind fun t284 => (sample_At.j0 k a1 a2 a3 (t284 != 0) a0_0 a0_1 l0_2)) else (sample_At.j0 k a1 a2 a3 true a0_0 a0_1 l0_2))) = some (r1, r2, r3, r4) := h
 clear h
 have HC5 := Aside0.mk H
 clear H
 go_enter Try.func17, Try.ntmps17
 go_upto_region 1 with (first | ((with_reducible refine gate_dst (N := 4) rfl ?_); refine box_event ?hg (N := 4) ?hd (cs := #[.int .i64 a0_0, .int .i64 a0_1, .slice A0_2 l0_2.length c0_2]) (t := 24) ?hr ?_; (case hd => rfl); (case hg => rfl); (case hr => first | (go_simp; done) | (go_simp; rfl)); intro E6 hg w6 hbox hb; have G9 := zg HB hg; have V0 := zg HB hg; have n0_ := Aside0.mk (hbox); replace HB := zb HB hb; have E0 := n0_; clear n0_; clear hb hbox hg) | ((with_reducible refine gate_dst (N := 8) rfl ?_); refine box_event ?hg (N := 8) ?hd (cs := #[.int .i64 0, .int .i64 0, .int .i64 0, .int .i64 0]) (t := 37) ?hr ?_; (case hd => rfl); (case hg => rfl); (case hr => first | (go_simp; done) | (go_simp; rfl)); intro E2 hg w7 hbox hb; have V1 := zg HB hg; have E9 := zg HB hg; have E3 := zn E0 hg; have E4 := zn' E0 hg; have n0_ := Aside0.mk (hbox); replace E0 := zk E0 hb; replace HB := zb HB hb; have E1 := n0_; clear n0_; clear hb hbox hg))
 (try simp only [Act.put, sA, sB, sC])
 go_cut [16] (fun v16 wc => ∃ (kq : Nat) (x16_4 : Bool), v16 = .bool x16_4 ∧ Aside0 (sample_At.j0 kq a1 a2 a3 x16_4 a0_0 a0_1 l0_2 = some (r1, r2, r3, r4)) ∧ Aside0 (kq ≤ k) ∧ Aside0 (wc.heap[E6]? = some (.cells #[.int .i64 a0_0, .int .i64 a0_1, (.slice A0_2 l0_2.length c0_2)] 24 (0, 0))) ∧ Aside0 (wc.heap[E2]? = some (.cells #[.int .i64 0, .int .i64 0, .int .i64 0, .int .i64 0] 37 (0, 0))) ∧ Aside0 (Below w.heap.size w wc))
 case first =>
  have H := HC5.out
  clear HC5
  replace H := Option.bind_eq_some_iff.mp H
  obtain ⟨t283, A80, H⟩ := H
  try dsimp only at H
  have A8 := Aside0.mk A80
  clear A80
  by_cases c9 : t283 = true
  ·subst c9
   rw [if_pos rfl] at H
   replace H := Option.bind_eq_some_iff.mp H
   obtain ⟨t284, A100, H⟩ := H
   try dsimp only at H
   have A10 := Aside0.mk A100
   clear A100
   have H' := Aside0.mk H
   clear H
   go_wp2_with (first | ((with_reducible refine gate_callee (f := 25) rfl ?_); refine goesL_ (some 10) rfl rfl Try.func25 (by kernel_rfl) rfl #[.int .i64 a1] rfl (by (try simp only [List.map_toArray, List.map_cons, List.map_nil]); first | done | rfl | (simp only [List.length_drop, List.length_take]; rfl)) ?_; (with_reducible refine (kernel_Valid.calls a1 true _ A8.out).mono ?_); rintro e w' ⟨rfl, ⟨nd, rfl⟩⟩; refine ⟨_, rfl, ?_⟩; obtain ⟨G3, G4, G5, G6, G7, G8⟩ := zq3 E0) | (go_at_call 11; (with_reducible refine (raster_Check.calls k a0_0 a0_1 _ _ l0_2 t284 _ ?side1 ?side2 A10.out).mono ?_); (case side1 => repeat (first | exact (Kd.C_below E7.out (by exact zb0 HB)) | (with_reducible refine Kd.C_alloc ?_ _) | (with_reducible refine Kd.C_drewN ?_ _) | (with_reducible refine Kd.C_drew ?_))); (case side2 => exact E8.out); rintro e w12 ⟨rfl, hb⟩; replace E0 := zk E0 hb; replace E1 := zk E1 hb; replace HB := zb HB hb; (try clear hb)))
   go_meet
   case rel => exact ⟨_, ((t284 != 0)), (by first | rfl | (simp; done) | (simp [*]; done)), H', ⟨by first | omega | exact Nat.le_refl _⟩, ⟨by exact zk0 E0⟩, ⟨by exact zk0 E1⟩, ⟨by exact zb0 HB⟩⟩
  replace c9 := Bool.eq_false_iff.mpr c9
  subst c9
  rw [if_neg (show ¬ (false = true) by decide)] at H
  have H' := Aside0.mk H
  clear H
  go_wp2_with (first | ((with_reducible refine gate_callee (f := 25) rfl ?_); refine goesL_ (some 10) rfl rfl Try.func25 (by kernel_rfl) rfl #[.int .i64 a1] rfl (by (try simp only [List.map_toArray, List.map_cons, List.map_nil]); first | done | rfl | (simp only [List.length_drop, List.length_take]; rfl)) ?_; (with_reducible refine (kernel_Valid.calls a1 false _ A8.out).mono ?_); rintro e w' ⟨rfl, ⟨nd, rfl⟩⟩; refine ⟨_, rfl, ?_⟩))
  go_meet
  case rel => exact ⟨_, (true), (by first | rfl | (simp; done) | (simp [*]; done)), H', ⟨by first | omega | exact Nat.le_refl _⟩, ⟨by exact zk0 E0⟩, ⟨by exact zk0 E1⟩, ⟨by exact zb0 HB⟩⟩
 case rest =>
  clear HC5
  try clear c1
  try clear c2
  try clear p2
  try clear q3
  try clear c9
  try clear G3
  try clear G4
  try clear G5
  try clear G6
  try clear G7
  try clear G8
  obtain ⟨kq, x16_4, rfl, HA, HJ4, E0, E1, HB⟩ := hcut
  cases kq with
  | zero => exact absurd HA.out (by simp [sample_At.j0])
  | succ kj4 =>
   have H := HA.out
   clear HA
   simp only [sample_At.j0] at H
   by_cases c13 : x16_4 = true
   ·subst c13
    rw [if_pos rfl] at H
    simp only [Option.some.injEq, Prod.mk.injEq] at H
    obtain ⟨rfl, rfl, rfl, rfl⟩ := H
    have V2 := E4.out
    have V3 := E3.out
    obtain ⟨V4, V5, V6, V7, V8, V9, Y0, Y1⟩ := zq4 E1
    go_wp2
    refine bodyPost_ret (results_cell_row rfl _ _ E2 37 #[.int .i64 0, .int .i64 0, .int .i64 0, .int .i64 0] (0, 0) _ rfl (by exact zp E1 rfl) Try.underlying37 rfl (by kernel_rfl)) rfl ?_
    exact ⟨by first | rfl | (simp [errW_none, errW_some] <;> rfl) | (simp [*, errW_none, errW_some] <;> rfl), by exact zbo HB E9⟩
   replace c13 := Bool.eq_false_iff.mpr c13
   subst c13
   rw [if_neg (show ¬ (false = true) by decide)] at H
   replace H := Option.bind_eq_some_iff.mp H
   obtain ⟨t285, A160, H⟩ := H
   try dsimp only at H
   have A16 := Aside0.mk A160
   clear A160
   replace H := Option.bind_eq_some_iff.mp H
   obtain ⟨t286, A170, H⟩ := H
   try dsimp only at H
   have A17 := Aside0.mk A170
   clear A170
   replace H := Option.bind_eq_some_iff.mp H
   obtain ⟨⟨t287, t288, t289, t290⟩, A180, H⟩ := H
   try dsimp only at H
   have A18 := Aside0.mk A180
   clear A180
   simp only [Option.some.injEq, Prod.mk.injEq] at H
   obtain ⟨rfl, rfl, rfl, rfl⟩ := H
   try go_wp2
   replace E0 := zkd E0
   replace E1 := zkd E1
   replace HB := zbd HB
   refine start_ (n := 9) (S := fun w' => w'.cell? ⟨E6, 0, none⟩ = some (.int .i64 a0_0) ∧ w'.cell? ⟨E6, 1, none⟩ = some (.int .i64 a0_1) ∧ w'.cell? ⟨E6, 2, none⟩ = some (.slice A0_2 l0_2.length c0_2)) (ds := []) (bs 9 0) (by kernel_rfl) rfl rfl ⟨(blk_cell E0.out 0).trans rfl, (blk_cell E0.out 1).trans rfl, (blk_cell E0.out 2).trans rfl⟩ (fun hHeld => ?_); refine with_tabW sample_At.tab3 sample_At.bits3 (fun HT_ HW_ => ?_)
   generalize wc.drew = w19 at E0 E1 HB hHeld ⊢
   refine pure_ (i := 2) (N := some 20) (v := ?_) (a' := ?_) (bs 9 4) rfl rfl (any_of HT_.out (by kernel_rfl)) (fun _ _ _ h => h) (Or.inl ⟨by rfl, ?_⟩) ?_ ?_
   rotate_left
   ·intro w'
    go_simp
    with_reducible rfl
   rotate_left
   ·simp only [Act.put, sA, sB, sC, i64_w, i32_w]
    rfl
   refine pure_ (i := 3) (N := some 21) (v := ?_) (a' := ?_) (bs 9 12) rfl rfl (any_of HT_.out (by kernel_rfl)) (fun _ _ _ h => h) (Or.inl ⟨by rfl, ?_⟩) ?_ ?_
   rotate_left
   ·intro w'
    go_simp
    with_reducible rfl
   rotate_left
   ·simp only [Act.put, sA, sB, sC, i64_w, i32_w]
    rfl
   refine pure_ (i := 5) (N := some 23) (v := ?_) (a' := ?_) (bs 9 44) rfl rfl (any_of HT_.out (by kernel_rfl)) (fun _ _ _ h => h) (Or.inl ⟨by rfl, ?_⟩) ?_ ?_
   rotate_left
   ·intro w'
    go_simp
    with_reducible rfl
   rotate_left
   ·simp only [Act.put, sA, sB, sC, i64_w, i32_w]
    rfl
   refine take_ (i := 0) (N := some 18) (v := ?_) (a' := ?_) (bs 9 45) rfl rfl (take_ofW HT_.out HW_.out (by kernel_rfl)) (fun _ _ _ h => h) (Or.inl ⟨by rfl, ?_⟩) hHeld ?_ ?_
   rotate_left
   ·rintro w' ⟨s0, s1, s2⟩
    go_simp
    with_reducible rfl
   rotate_left
   ·simp only [Act.put, sA, sB, sC, i64_w, i32_w]
    rfl
   refine pure_ (i := 1) (N := some 19) (v := ?_) (a' := ?_) (bs 9 47) rfl rfl (any_of HT_.out (by kernel_rfl)) (fun _ _ _ h => h) (Or.inl ⟨by rfl, ?_⟩) ?_ ?_
   rotate_left
   ·intro w'
    go_simp
    with_reducible rfl
   rotate_left
   ·simp only [Act.put, sA, sB, sC, i64_w, i32_w]
    rfl
   refine one_ (i := 4) (N := some 22) (bs 9 63) rfl rfl (one_of HT_.out (by kernel_rfl)) (by decide) (fun K hK => ?_)
   refine goes_ Try.func29 (by kernel_rfl) rfl #[.int .i64 a2] (by rfl) rfl rfl (by (try simp only [List.map_toArray, List.map_cons, List.map_nil]); first | done | rfl | (simp only [List.length_drop, List.length_take]; rfl)) ?_
   with_reducible refine (sample_limit.calls a2 t285 _ A16.out).mono ?_
   rintro e w20 ⟨rfl, hb⟩
   refine ⟨_, rfl, ?_⟩
   replace E0 := zk E0 hb
   replace E1 := zk E1 hb
   replace HB := zb HB hb
   (try clear hb)
   (try clear hb2)
   (try clear hk)
   (try clear hi)
   refine hK.out _ _ ⟨(blk_cell E0.out 0).trans rfl, (blk_cell E0.out 1).trans rfl, (blk_cell E0.out 2).trans rfl⟩ (fun hHeld => ?_)
   clear hK K
   refine norm_ (a' := ?_) ?_ ?_
   rotate_left
   ·show Act.put _ (some 22) _ = _
    simp only [Act.put, sA, sB, sC, i64_w, i32_w]
    rfl
   refine one_ (i := 6) (N := some 24) (bs 9 127) rfl rfl (one_of HT_.out (by kernel_rfl)) (by decide) (fun K hK => ?_)
   refine goes_ Try.func29 (by kernel_rfl) rfl #[.int .i64 a3] (by rfl) rfl rfl (by (try simp only [List.map_toArray, List.map_cons, List.map_nil]); first | done | rfl | (simp only [List.length_drop, List.length_take]; rfl)) ?_
   with_reducible refine (sample_limit.calls a3 t286 _ A17.out).mono ?_
   rintro e w21 ⟨rfl, hb⟩
   refine ⟨_, rfl, ?_⟩
   replace E0 := zk E0 hb
   replace E1 := zk E1 hb
   replace HB := zb HB hb
   (try clear hb)
   (try clear hb2)
   (try clear hk)
   (try clear hi)
   refine hK.out _ _ ⟨(blk_cell E0.out 0).trans rfl, (blk_cell E0.out 1).trans rfl, (blk_cell E0.out 2).trans rfl⟩ (fun hHeld => ?_)
   clear hK K
   refine norm_ (a' := ?_) ?_ ?_
   rotate_left
   ·show Act.put _ (some 24) _ = _
    simp only [Act.put, sA, sB, sC, i64_w, i32_w]
    rfl
   refine one_ (i := 7) (N := some 25) (bs 9 255) rfl rfl (one_of HT_.out (by kernel_rfl)) (by decide) (fun K hK => ?_)
   refine goes_ Try.func28 (by kernel_rfl) rfl #[.agg #[.int .i64 a0_0, .int .i64 a0_1, .slice A0_2 l0_2.length c0_2, .bool false], .int .i64 a1, .int .i64 t285, .int .i64 t286] (by rfl) rfl rfl (by (try simp only [List.map_toArray, List.map_cons, List.map_nil]); first | done | rfl | (simp only [List.length_drop, List.length_take]; rfl)) ?_
   with_reducible refine (sample_source_at.calls kj4 a0_0 a0_1 _ _ l0_2 false a1 t285 t286 t287 t288 t289 t290 _ ?side1 ?side2 A18.out).mono ?_
   (case side1 => repeat (first | exact (Kd.C_below E7.out HB.out) | (with_reducible refine Kd.C_alloc ?_ _) | (with_reducible refine Kd.C_drewN ?_ _) | (with_reducible refine Kd.C_drew ?_)))
   (case side2 => exact E8.out)
   rintro e w22 ⟨rfl, hb⟩
   refine ⟨_, rfl, ?_⟩
   replace E0 := zk E0 hb
   replace E1 := zk E1 hb
   replace HB := zb HB hb
   (try clear hb)
   (try clear hb2)
   (try clear hk)
   (try clear hi)
   refine hK.out _ _ ⟨(blk_cell E0.out 0).trans rfl, (blk_cell E0.out 1).trans rfl, (blk_cell E0.out 2).trans rfl⟩ (fun hHeld => ?_)
   clear hK K
   refine norm_ (a' := ?_) ?_ ?_
   rotate_left
   ·show Act.put _ (some 25) _ = _
    simp only [Act.put, sA, sB, sC, i64_w, i32_w]
    rfl
   refine one_ (i := 8) (N := none) (bs 9 511) rfl rfl (one_of HT_.out (by kernel_rfl)) (by decide) (fun K hK => ?_)
   have hs23 : w22.cell? ⟨E2, 0, none⟩ = some (.int .i64 0) := (blk_cell E1.out 0).trans rfl
   have hfs23 := blk_frozen E1.out 0
   have Y2 := E3.out
   have Y3 := E4.out
   have hs24 : w22.cell? ⟨E2, 1, none⟩ = some (.int .i64 0) := (blk_cell E1.out 1).trans rfl
   have hfs24 := blk_frozen E1.out 1
   have Y4 := E3.out
   have Y5 := E4.out
   have hs25 : w22.cell? ⟨E2, 2, none⟩ = some (.int .i64 0) := (blk_cell E1.out 2).trans rfl
   have hfs25 := blk_frozen E1.out 2
   have Y6 := E3.out
   have Y7 := E4.out
   have hs26 : w22.cell? ⟨E2, 3, none⟩ = some (.int .i64 0) := (blk_cell E1.out 3).trans rfl
   have hfs26 := blk_frozen E1.out 3
   have Y8 := E3.out
   have Y9 := E4.out
   refine skip_ (w1 := ?_) (by rfl) rfl ?_ ?_
   rotate_left
   ·go_simp
    rfl
   refine hK.out _ _ ⟨((cell_far (p := ⟨E2, _, none⟩) E3.out _).trans (((cell_far (p := ⟨E2, _, none⟩) E3.out _).trans (((cell_far (p := ⟨E2, _, none⟩) E3.out _).trans (((cell_far (p := ⟨E2, _, none⟩) E3.out _).trans (hHeld.1)))))))), ((cell_far (p := ⟨E2, _, none⟩) E3.out _).trans (((cell_far (p := ⟨E2, _, none⟩) E3.out _).trans (((cell_far (p := ⟨E2, _, none⟩) E3.out _).trans (((cell_far (p := ⟨E2, _, none⟩) E3.out _).trans (hHeld.2.1)))))))), ((cell_far (p := ⟨E2, _, none⟩) E3.out _).trans (((cell_far (p := ⟨E2, _, none⟩) E3.out _).trans (((cell_far (p := ⟨E2, _, none⟩) E3.out _).trans (((cell_far (p := ⟨E2, _, none⟩) E3.out _).trans (hHeld.2.2))))))))⟩ (fun hHeld => ?_)
   clear hK K
   refine done_ (done_of HT_.out (by kernel_rfl)) ?_
   try go_wp2
   refine bodyPost_ret (results_cell_row rfl _ _ E2 37 #[.int .i64 t287, .int .i64 t288, .int .i64 t289, .int .i64 t290] (0, 0) _ rfl (by exact zp E1 rfl) Try.underlying37 rfl (by kernel_rfl)) rfl ?_
   exact ⟨by first | rfl | (simp [errW_none, errW_some] <;> rfl) | (simp [*, errW_none, errW_some] <;> rfl), by exact zbo HB E9⟩

/-! ### sample_Resize: function 19 -/
mutual
def sample_Resize.j0 : Nat → Int → Int → Int → Bool → Int → Int → List (S37) → Option (Int × Int × (List (S37)) × Int)
 | 0, _, _, _, _, _, _, _ => none
 | k + 1, x1, x2, x3, x40, E9, G0, G2 => if x40 = true then (some (0, 0, ([] : List (S37)), 15)) else ((kernel_Valid.f x3).bind fun t294 => (if t294 = true then (sample_Resize.l0 k x1 x2 x3 x2 0 E9 G0 G2 E9 G0 G2 true x1 x2 ([] : List (S37))) else (some (0, 0, ([] : List (S37)), 8))))
def sample_Resize.l0 : Nat → Int → Int → Int → Int → Int → Int → Int → List (S37) → Int → Int → List (S37) → Bool → Int → Int → List (S37) → Option (Int × Int × (List (S37)) × Int)
 | 0, _, _, _, _, _, _, _, _, _, _, _, _, _, _, _ => none
 | k + 1, x1, x2, x3, x51, x52, E9, G0, G2, G6, G7, G8, G9, V0, V1, G3 => if x52 < x51 then ((num_Div.f k (wrap64 ((wrap64 ((wrap64 ((wrap64 (2 * x52)) + 1)) * G0)) * 65536)) (wrap64 (2 * x2))).bind fun t297 => (sample_Resize.l1 k x1 x2 x3 t297 x51 x52 x1 0 E9 G0 G2 G6 G7 G8 G9 V0 V1 G3)) else (some (V0, V1, G3, 0))
def sample_Resize.l1 : Nat → Int → Int → Int → Int → Int → Int → Int → Int → Int → Int → List (S37) → Int → Int → List (S37) → Bool → Int → Int → List (S37) → Option (Int × Int × (List (S37)) × Int)
 | 0, _, _, _, _, _, _, _, _, _, _, _, _, _, _, _, _, _, _ => none
 | k + 1, x1, x2, x3, x14, x51, x52, x65, x66, E9, G0, G2, G6, G7, G8, G9, V0, V1, G3 => if x66 < x65 then ((num_Div.f k (wrap64 ((wrap64 ((wrap64 ((wrap64 (2 * x66)) + 1)) * E9)) * 65536)) (wrap64 (2 * x1))).bind fun t298 => ((sample_source_at.f k G6 G7 G8 G9 x3 t298 x14).bind fun V7 => (if G3.length < 4398046511104 then (sample_Resize.l1 k x1 x2 x3 x14 x51 x52 x65 (wrap64 (x66 + 1)) E9 G0 G2 G6 G7 G8 G9 V0 V1 (G3 ++ [(⟨V7.1, V7.2.1, V7.2.2.1, V7.2.2.2⟩ : S37)])) else (none)))) else (sample_Resize.l0 k x1 x2 x3 x51 (wrap64 (x52 + 1)) E9 G0 G2 G6 G7 G8 G9 V0 V1 G3)
end
def sample_Resize.f (k : Nat) (a0_0 : Int) (a0_1 : Int) (l0_2 : List (S37)) (a1 : Int) (a2 : Int) (a3 : Int) : Option (Int × Int × (List (S37)) × Int) := (raster_Check.f k a0_0 a0_1 l0_2).bind fun t293 => (if t293 = 0 then (if a1 < 1 then (sample_Resize.j0 k a1 a2 a3 true a0_0 a0_1 l0_2) else (if a1 > 256 then (sample_Resize.j0 k a1 a2 a3 true a0_0 a0_1 l0_2) else (if a2 < 1 then (sample_Resize.j0 k a1 a2 a3 true a0_0 a0_1 l0_2) else (if a2 > 256 then (sample_Resize.j0 k a1 a2 a3 true a0_0 a0_1 l0_2) else (sample_Resize.j0 k a1 a2 a3 (a0_0 == 0) a0_0 a0_1 l0_2))))) else (some (0, 0, ([] : List (S37)), t293)))
theorem sample_Resize.mono_l : ∀ k, (∀ y0 y1 y2 y3 y4 y5 y6, LeO (sample_Resize.j0 k y0 y1 y2 y3 y4 y5 y6) (sample_Resize.j0 (k + 1) y0 y1 y2 y3 y4 y5 y6)) ∧ (∀ y0 y1 y2 y3 y4 y5 y6 y7 y8 y9 y10 y11 y12 y13 y14, LeO (sample_Resize.l0 k y0 y1 y2 y3 y4 y5 y6 y7 y8 y9 y10 y11 y12 y13 y14) (sample_Resize.l0 (k + 1) y0 y1 y2 y3 y4 y5 y6 y7 y8 y9 y10 y11 y12 y13 y14)) ∧ (∀ y0 y1 y2 y3 y4 y5 y6 y7 y8 y9 y10 y11 y12 y13 y14 y15 y16 y17, LeO (sample_Resize.l1 k y0 y1 y2 y3 y4 y5 y6 y7 y8 y9 y10 y11 y12 y13 y14 y15 y16 y17) (sample_Resize.l1 (k + 1) y0 y1 y2 y3 y4 y5 y6 y7 y8 y9 y10 y11 y12 y13 y14 y15 y16 y17))
 | 0 => ⟨fun _ _ _ _ _ _ _ r h => by simp [sample_Resize.j0] at h, fun _ _ _ _ _ _ _ _ _ _ _ _ _ _ _ r h => by simp [sample_Resize.l0] at h, fun _ _ _ _ _ _ _ _ _ _ _ _ _ _ _ _ _ _ r h => by simp [sample_Resize.l1] at h⟩
 | k + 1 => by
  obtain ⟨ih0, ih1, ih2⟩ := sample_Resize.mono_l k
  refine ⟨?_, ?_, ?_⟩
  ·intro y0 y1 y2 y3 y4 y5 y6
   unfold sample_Resize.j0
   repeat' first
   | (with_reducible exact ih0 _ _ _ _ _ _ _)
   | (with_reducible exact ih1 _ _ _ _ _ _ _ _ _ _ _ _ _ _ _)
   | (with_reducible exact ih2 _ _ _ _ _ _ _ _ _ _ _ _ _ _ _ _ _ _)
   | (with_reducible exact num_Div.mono _ _ _)
   | (with_reducible exact raster_Check.mono _ _ _ _)
   | (with_reducible exact sample_source_at.mono _ _ _ _ _ _ _ _)
   | (with_reducible exact LeO.refl _)
   | (with_reducible exact LeO.none _)
   | (with_reducible refine LeO.ite ?_ ?_)
   | (with_reducible refine LeO.bind ?_ (fun _ => ?_))
   | exact ih0 _ _ _ _ _ _ _
   | exact ih1 _ _ _ _ _ _ _ _ _ _ _ _ _ _ _
   | exact ih2 _ _ _ _ _ _ _ _ _ _ _ _ _ _ _ _ _ _
   | exact num_Div.mono _ _ _
   | exact raster_Check.mono _ _ _ _
   | exact sample_source_at.mono _ _ _ _ _ _ _ _
   | exact LeO.none _
   | refine LeO.ite ?_ ?_
   | refine LeO.bind ?_ (fun _ => ?_)
  ·intro y0 y1 y2 y3 y4 y5 y6 y7 y8 y9 y10 y11 y12 y13 y14
   unfold sample_Resize.l0
   repeat' first
   | (with_reducible exact ih0 _ _ _ _ _ _ _)
   | (with_reducible exact ih1 _ _ _ _ _ _ _ _ _ _ _ _ _ _ _)
   | (with_reducible exact ih2 _ _ _ _ _ _ _ _ _ _ _ _ _ _ _ _ _ _)
   | (with_reducible exact num_Div.mono _ _ _)
   | (with_reducible exact raster_Check.mono _ _ _ _)
   | (with_reducible exact sample_source_at.mono _ _ _ _ _ _ _ _)
   | (with_reducible exact LeO.refl _)
   | (with_reducible exact LeO.none _)
   | (with_reducible refine LeO.ite ?_ ?_)
   | (with_reducible refine LeO.bind ?_ (fun _ => ?_))
   | exact ih0 _ _ _ _ _ _ _
   | exact ih1 _ _ _ _ _ _ _ _ _ _ _ _ _ _ _
   | exact ih2 _ _ _ _ _ _ _ _ _ _ _ _ _ _ _ _ _ _
   | exact num_Div.mono _ _ _
   | exact raster_Check.mono _ _ _ _
   | exact sample_source_at.mono _ _ _ _ _ _ _ _
   | exact LeO.none _
   | refine LeO.ite ?_ ?_
   | refine LeO.bind ?_ (fun _ => ?_)
  ·intro y0 y1 y2 y3 y4 y5 y6 y7 y8 y9 y10 y11 y12 y13 y14 y15 y16 y17
   unfold sample_Resize.l1
   repeat' first
   | (with_reducible exact ih0 _ _ _ _ _ _ _)
   | (with_reducible exact ih1 _ _ _ _ _ _ _ _ _ _ _ _ _ _ _)
   | (with_reducible exact ih2 _ _ _ _ _ _ _ _ _ _ _ _ _ _ _ _ _ _)
   | (with_reducible exact num_Div.mono _ _ _)
   | (with_reducible exact raster_Check.mono _ _ _ _)
   | (with_reducible exact sample_source_at.mono _ _ _ _ _ _ _ _)
   | (with_reducible exact LeO.refl _)
   | (with_reducible exact LeO.none _)
   | (with_reducible refine LeO.ite ?_ ?_)
   | (with_reducible refine LeO.bind ?_ (fun _ => ?_))
   | exact ih0 _ _ _ _ _ _ _
   | exact ih1 _ _ _ _ _ _ _ _ _ _ _ _ _ _ _
   | exact ih2 _ _ _ _ _ _ _ _ _ _ _ _ _ _ _ _ _ _
   | exact num_Div.mono _ _ _
   | exact raster_Check.mono _ _ _ _
   | exact sample_source_at.mono _ _ _ _ _ _ _ _
   | exact LeO.none _
   | refine LeO.ite ?_ ?_
   | refine LeO.bind ?_ (fun _ => ?_)
theorem sample_Resize.mono : ∀ a0 a1 a2 a3 a4 a5 k, LeO (sample_Resize.f k a0 a1 a2 a3 a4 a5) (sample_Resize.f (k + 1) a0 a1 a2 a3 a4 a5) := by
 intro a0 a1 a2 a3 a4 a5 k
 obtain ⟨ih0, ih1, ih2⟩ := sample_Resize.mono_l k
 unfold sample_Resize.f
 repeat' first
   | (with_reducible exact ih0 _ _ _ _ _ _ _)
   | (with_reducible exact ih1 _ _ _ _ _ _ _ _ _ _ _ _ _ _ _)
   | (with_reducible exact ih2 _ _ _ _ _ _ _ _ _ _ _ _ _ _ _ _ _ _)
   | (with_reducible exact num_Div.mono _ _ _)
   | (with_reducible exact raster_Check.mono _ _ _ _)
   | (with_reducible exact sample_source_at.mono _ _ _ _ _ _ _ _)
   | (with_reducible exact LeO.refl _)
   | (with_reducible exact LeO.none _)
   | (with_reducible refine LeO.ite ?_ ?_)
   | (with_reducible refine LeO.bind ?_ (fun _ => ?_))
   | exact ih0 _ _ _ _ _ _ _
   | exact ih1 _ _ _ _ _ _ _ _ _ _ _ _ _ _ _
   | exact ih2 _ _ _ _ _ _ _ _ _ _ _ _ _ _ _ _ _ _
   | exact num_Div.mono _ _ _
   | exact raster_Check.mono _ _ _ _
   | exact sample_source_at.mono _ _ _ _ _ _ _ _
   | exact LeO.none _
   | refine LeO.ite ?_ ?_
   | refine LeO.bind ?_ (fun _ => ?_)
def sample_Resize.T17 : Bool × List (List Nat × List Nat) := (true, [([], []), ([0], [0]), ([], []), ([], []), ([], []), ([4], [4]), ([5], [5]), ([], []), ([7], [7]), ([6, 8], [6, 8]), ([9], [9]), ([], []), ([11], [11]), ([10, 12], [10, 12]), ([], []), ([2, 3, 13, 14, 13], [2, 3, 13, 14]), ([15], [15]), ([1, 16, 15], [1, 16]), ([0, 1, 2, 3, 4, 5, 6, 7, 8, 9, 10, 11, 12, 13, 14, 15, 16, 17], []), ([18, 17, 17, 0, 1, 2, 3, 4, 5, 6, 7, 8, 9, 10, 11, 12, 13, 14, 15, 16, 17], [17, 18])])
def sample_Resize.B17 : List Nat := [0, 1, 0, 0, 0, 16, 48, 0, 128, 496, 1008, 0, 2048, 8176, 0, 32764, 65532, 131071, 262143, 524287]
theorem sample_Resize.tab17 : rtab .any (opsOf Try.f19 17) = sample_Resize.T17 := by kernel_rfl
theorem sample_Resize.bits17 : waitsOk sample_Resize.T17.2 sample_Resize.B17 = true := by kernel_rfl
set_option maxHeartbeats 8000000 in
set_option maxRecDepth 100000 in
theorem sample_Resize.calls (k : Nat) (a0_0 : Int) (a0_1 : Int) (A0_2 : Option Addr) (c0_2 : Nat) (l0_2 : List (S37)) (a1 : Int) (a2 : Int) (a3 : Int) (r1 : Int) (r2 : Int) (r3 : List (S37)) (r4 : Int) (w : World) (hr0_2 : Kd.C k37 w A0_2 l0_2.length l0_2) (hc0_2 : l0_2.length ≤ c0_2) (h : sample_Resize.f k a0_0 a0_1 l0_2 a1 a2 a3 = some (r1, r2, r3, r4)) :
  Calls Try.prog 19 #[.agg #[.int .i64 a0_0, .int .i64 a0_1, .slice A0_2 l0_2.length c0_2], .int .i64 a1, .int .i64 a2, .int .i64 a3] w fun e w' => ∃ v2_ : Value, e = .returned (.tuple #[.agg #[.int .i64 r1, .int .i64 r2, v2_], .int .i64 r4]) ∧ Kd.R k37 37 w' w.heap.size (fun _ => True) v2_ r3 ∧ Below w.heap.size w w' := by
 have hu24 := Try.underlying24
 have hu60 := Try.underlying60
 have Y4 := Aside0.mk hr0_2
 have Y5 := Aside0.mk hc0_2
 clear hr0_2 hc0_2
 have HB := Aside0.mk (Below.refl w.heap.size w)
 have H : ((raster_Check.f k a0_0 a0_1 l0_2).bind fun t293 => (if t293 = 0 then (if a1 < 1 then (sample_Resize.j0 k a1 a2 a3 true a0_0 a0_1 l0_2) else (if a1 > 256 then (sample_Resize.j0 k a1 a2 a3 true a0_0 a0_1 l0_2) else (if a2 < 1 then (sample_Resize.j0 k a1 a2 a3 true a0_0 a0_1 l0_2) else (if a2 > 256 then (sample_Resize.j0 k a1 a2 a3 true a0_0 a0_1 l0_2) else (sample_Resize.j0 k a1 a2 a3 (a0_0 == 0) a0_0 a0_1 l0_2))))) else (some (0, 0, ([] : List (S37)), t293)))) = some (r1, r2, r3, r4) := h
 clear h
 replace H := Option.bind_eq_some_iff.mp H
 obtain ⟨t293, A50, H⟩ := H
 try dsimp only at H
 have A5 := Aside0.mk A50
 clear A50
 by_cases c6 : t293 = 0
 rotate_left
 ·rw [if_neg c6] at H
  have V8 : (t293 == 0) = false := beq_eq_false_iff_ne.mpr c6
  have V9 : (t293 != 0) = true := bne_iff_ne.mpr c6
  simp only [Option.some.injEq, Prod.mk.injEq] at H
  obtain ⟨rfl, rfl, rfl, rfl⟩ := H
  go_enter Try.func19, Try.ntmps19
  go_wp2_with (first | ((with_reducible refine gate_dst (N := 4) rfl ?_); refine box_event ?hg (N := 4) ?hd (cs := #[.int .i64 a0_0, .int .i64 a0_1, .slice A0_2 l0_2.length c0_2]) (t := 24) ?hr ?_; (case hd => rfl); (case hg => rfl); (case hr => first | (go_simp; done) | (go_simp; rfl)); intro E7 hg w55 hbox hb; have E0b := zg HB hg; have E0c := zg HB hg; have n0_ := Aside0.mk (hbox); replace HB := zb HB hb; have E0 := n0_; clear n0_; clear hb hbox hg) | ((with_reducible refine gate_dst (N := 8) rfl ?_); refine box_event ?hg (N := 8) ?hd (cs := #[.int .i64 0, .int .i64 0, .slice none 0 0]) (t := 24) ?hr ?_; (case hd => rfl); (case hg => rfl); (case hr => first | (go_simp; done) | (go_simp; rfl)); intro E6 hg w56 hbox hb; have E0d := zg HB hg; have V2 := zg HB hg; have G4 := zn E0 hg; have G5 := zn' E0 hg; have n0_ := Aside0.mk (hbox); replace E0 := zk E0 hb; replace HB := zb HB hb; have E1 := n0_; clear n0_; clear hb hbox hg; have E0m := G4.out; have E0n := G5.out; obtain ⟨E0o, E0p, E0q, E0r, E0s, E0t⟩ := zq3 E0) | ((with_reducible refine gate_callee (f := 11) rfl ?_); refine goesL_ (some 17) rfl rfl Try.func11 (by kernel_rfl) rfl #[.agg #[.int .i64 a0_0, .int .i64 a0_1, .slice A0_2 l0_2.length c0_2]] rfl (by (try simp only [List.map_toArray, List.map_cons, List.map_nil]); first | done | rfl | (simp only [List.length_drop, List.length_take]; rfl)) ?_; (with_reducible refine (raster_Check.calls k a0_0 a0_1 _ _ l0_2 t293 _ ?side1 ?side2 A5.out).mono ?_); (case side1 => repeat (first | exact (Kd.C_below Y4.out HB.out) | (with_reducible refine Kd.C_alloc ?_ _) | (with_reducible refine Kd.C_drewN ?_ _) | (with_reducible refine Kd.C_drew ?_))); (case side2 => exact Y5.out); rintro e w59 ⟨rfl, hb⟩; refine ⟨_, rfl, ?_⟩; replace E0 := zk E0 hb; replace E1 := zk E1 hb; replace HB := zb HB hb; (try clear hb); obtain ⟨E0u, E0v, E0w, E0x, E0y, E0z⟩ := zq3 E1))
  refine bodyPost_ret (results_ct rfl _ _ E6 24 #[.int .i64 0, .int .i64 0, .slice none 0 0] (0, 0) _ rfl (by exact zp E1 rfl) Try.underlying24 rfl (by kernel_rfl)) rfl ?_
  exact ⟨_, by first | rfl | (simp [errW_none, errW_some] <;> rfl) | (simp [*, errW_none, errW_some] <;> rfl), by first | exact Kd.R_nil _ _ _ _ _ | exact Kd.N_nil _ _ _ _ _ | exact Kd.V_nil _ _ _ _ _ | exact Kd.Q_nil _ _ _ _ _ | exact Kd.S_nil _ _ _ _ _, by exact zbo HB V2⟩

 rw [if_pos c6] at H
 have V8 : (t293 == 0) = true := beq_iff_eq.mpr c6
 have V9 : (t293 != 0) = false := bne_eq_false_iff_eq.mpr c6
 clear c6
 have HC7 := Aside0.mk H
 clear H
 go_enter Try.func19, Try.ntmps19
 go_upto_region 4 with (first | ((with_reducible refine gate_dst (N := 4) rfl ?_); refine box_event ?hg (N := 4) ?hd (cs := #[.int .i64 a0_0, .int .i64 a0_1, .slice A0_2 l0_2.length c0_2]) (t := 24) ?hr ?_; (case hd => rfl); (case hg => rfl); (case hr => first | (go_simp; done) | (go_simp; rfl)); intro E7 hg w8 hbox hb; have E0b := zg HB hg; have E0c := zg HB hg; have n0_ := Aside0.mk (hbox); replace HB := zb HB hb; have E0 := n0_; clear n0_; clear hb hbox hg) | ((with_reducible refine gate_dst (N := 8) rfl ?_); refine box_event ?hg (N := 8) ?hd (cs := #[.int .i64 0, .int .i64 0, .slice none 0 0]) (t := 24) ?hr ?_; (case hd => rfl); (case hg => rfl); (case hr => first | (go_simp; done) | (go_simp; rfl)); intro E6 hg w9 hbox hb; have E0d := zg HB hg; have V2 := zg HB hg; have G4 := zn E0 hg; have G5 := zn' E0 hg; have n0_ := Aside0.mk (hbox); replace E0 := zk E0 hb; replace HB := zb HB hb; have E1 := n0_; clear n0_; clear hb hbox hg; obtain ⟨Y6, Y7, Y8, Y9, Z0, Z1⟩ := zq3 E0) | ((with_reducible refine gate_callee (f := 11) rfl ?_); refine goesL_ (some 17) rfl rfl Try.func11 (by kernel_rfl) rfl #[.agg #[.int .i64 a0_0, .int .i64 a0_1, .slice A0_2 l0_2.length c0_2]] rfl (by (try simp only [List.map_toArray, List.map_cons, List.map_nil]); first | done | rfl | (simp only [List.length_drop, List.length_take]; rfl)) ?_; (with_reducible refine (raster_Check.calls k a0_0 a0_1 _ _ l0_2 t293 _ ?side1 ?side2 A5.out).mono ?_); (case side1 => repeat (first | exact (Kd.C_below Y4.out HB.out) | (with_reducible refine Kd.C_alloc ?_ _) | (with_reducible refine Kd.C_drewN ?_ _) | (with_reducible refine Kd.C_drew ?_))); (case side2 => exact Y5.out); rintro e w11 ⟨rfl, hb⟩; refine ⟨_, rfl, ?_⟩; replace E0 := zk E0 hb; replace E1 := zk E1 hb; replace HB := zb HB hb; (try clear hb); (try clear hb2); (try clear hk); (try clear hi)))
 (try simp only [Act.put, sA, sB, sC])
 go_cut [40] (fun v40 wc => ∃ (kq : Nat) (x40_6 : Bool), v40 = .bool x40_6 ∧ Aside0 (sample_Resize.j0 kq a1 a2 a3 x40_6 a0_0 a0_1 l0_2 = some (r1, r2, r3, r4)) ∧ Aside0 (kq ≤ k) ∧ Aside0 (wc.heap[E7]? = some (.cells #[.int .i64 a0_0, .int .i64 a0_1, (.slice A0_2 l0_2.length c0_2)] 24 (0, 0))) ∧ Aside0 (wc.heap[E6]? = some (.cells #[.int .i64 0, .int .i64 0, (.slice none 0 0)] 24 (0, 0))) ∧ Aside0 (Below w.heap.size w wc))
 case first =>
  have H := HC7.out
  clear HC7
  by_cases c12 : a1 < 1
  ·rw [if_pos c12] at H
   have G1 : decide (a1 < 1) = true := decide_eq_true c12
   clear c12
   (first | rw [G1] | (simp only [i64_w, i32_w]; rw [G1]) | skip)
   have H' := Aside0.mk H
   clear H
   go_wp2
   go_meet
   case rel => exact ⟨_, (true), (by first | rfl | (simp; done) | (simp [*]; done)), H', ⟨by first | omega | exact Nat.le_refl _⟩, ⟨by exact zk0 E0⟩, ⟨by exact zk0 E1⟩, ⟨by exact zb0 HB⟩⟩
  rw [if_neg c12] at H
  have G1 : decide (a1 < 1) = false := decide_eq_false c12
  clear c12
  (first | rw [G1] | (simp only [i64_w, i32_w]; rw [G1]) | skip)
  by_cases c13 : a1 > 256
  ·rw [if_pos c13] at H
   have Y0 : decide (256 < a1) = true := decide_eq_true c13
   clear c13
   have H' := Aside0.mk H
   clear H
   go_wp2
   go_meet
   case rel => exact ⟨_, (true), (by first | rfl | (simp; done) | (simp [*]; done)), H', ⟨by first | omega | exact Nat.le_refl _⟩, ⟨by exact zk0 E0⟩, ⟨by exact zk0 E1⟩, ⟨by exact zb0 HB⟩⟩
  rw [if_neg c13] at H
  have Y0 : decide (256 < a1) = false := decide_eq_false c13
  clear c13
  by_cases c14 : a2 < 1
  ·rw [if_pos c14] at H
   have Y1 : decide (a2 < 1) = true := decide_eq_true c14
   clear c14
   have H' := Aside0.mk H
   clear H
   go_wp2
   go_meet
   case rel => exact ⟨_, (true), (by first | rfl | (simp; done) | (simp [*]; done)), H', ⟨by first | omega | exact Nat.le_refl _⟩, ⟨by exact zk0 E0⟩, ⟨by exact zk0 E1⟩, ⟨by exact zb0 HB⟩⟩
  rw [if_neg c14] at H
  have Y1 : decide (a2 < 1) = false := decide_eq_false c14
  clear c14
  by_cases c15 : a2 > 256
  ·rw [if_pos c15] at H
   have Y2 : decide (256 < a2) = true := decide_eq_true c15
   clear c15
   have H' := Aside0.mk H
   clear H
   go_wp2
   go_meet
   case rel => exact ⟨_, (true), (by first | rfl | (simp; done) | (simp [*]; done)), H', ⟨by first | omega | exact Nat.le_refl _⟩, ⟨by exact zk0 E0⟩, ⟨by exact zk0 E1⟩, ⟨by exact zb0 HB⟩⟩
  rw [if_neg c15] at H
  have Y2 : decide (256 < a2) = false := decide_eq_false c15
  clear c15
  have H' := Aside0.mk H
  clear H
  obtain ⟨Z2, Z3, Z4, Z5, Z6, Z7⟩ := zq3 E0
  go_wp2
  go_meet
  case rel => exact ⟨_, ((a0_0 == 0)), (by first | rfl | (simp; done) | (simp [*]; done)), H', ⟨by first | omega | exact Nat.le_refl _⟩, ⟨by exact zk0 E0⟩, ⟨by exact zk0 E1⟩, ⟨by exact zb0 HB⟩⟩
 case rest =>
  clear HC7
  try clear c1
  try clear p2
  try clear q3
  try clear c6
  try clear V8
  try clear V9
  try clear c11
  try clear c12
  try clear G1
  try clear c13
  try clear Y0
  try clear c14
  try clear Y1
  try clear c15
  try clear Y2
  try clear Y6
  try clear Y7
  try clear Y8
  try clear Z2
  try clear Z3
  try clear Z4
  try clear Y9
  try clear Z0
  try clear Z1
  try clear Z5
  try clear Z6
  try clear Z7
  obtain ⟨kq, x40_6, rfl, HA, HJ6, E0, E1, HB⟩ := hcut
  cases kq with
  | zero => exact absurd HA.out (by simp [sample_Resize.j0])
  | succ kj6 =>
   have H := HA.out
   clear HA
   simp only [sample_Resize.j0] at H
   by_cases c17 : x40_6 = true
   ·subst c17
    rw [if_pos rfl] at H
    simp only [Option.some.injEq, Prod.mk.injEq] at H
    obtain ⟨rfl, rfl, rfl, rfl⟩ := H
    have E0A := G5.out
    have E0B := G4.out
    obtain ⟨J2, J3, J4, J5, J6, J7⟩ := zq3 E1
    go_wp2
    refine bodyPost_ret (results_ct rfl _ _ E6 24 #[.int .i64 0, .int .i64 0, .slice none 0 0] (0, 0) _ rfl (by exact zp E1 rfl) Try.underlying24 rfl (by kernel_rfl)) rfl ?_
    exact ⟨_, by first | rfl | (simp [errW_none, errW_some] <;> rfl) | (simp [*, errW_none, errW_some] <;> rfl), by first | exact Kd.R_nil _ _ _ _ _ | exact Kd.N_nil _ _ _ _ _ | exact Kd.V_nil _ _ _ _ _ | exact Kd.Q_nil _ _ _ _ _ | exact Kd.S_nil _ _ _ _ _, by exact zbo HB V2⟩
   replace c17 := Bool.eq_false_iff.mpr c17
   subst c17
   rw [if_neg (show ¬ (false = true) by decide)] at H
   replace H := Option.bind_eq_some_iff.mp H
   obtain ⟨t294, A200, H⟩ := H
   try dsimp only at H
   have A20 := Aside0.mk A200
   clear A200
   by_cases c21 : t294 = true
   rotate_left
   ·replace c21 := Bool.eq_false_iff.mpr c21
    subst c21
    rw [if_neg (show ¬ (false = true) by decide)] at H
    simp only [Option.some.injEq, Prod.mk.injEq] at H
    obtain ⟨rfl, rfl, rfl, rfl⟩ := H
    go_wp2_with (first | ((with_reducible refine gate_callee (f := 25) rfl ?_); refine goesL_ (some 43) rfl rfl Try.func25 (by kernel_rfl) rfl #[.int .i64 a3] rfl (by (try simp only [List.map_toArray, List.map_cons, List.map_nil]); first | done | rfl | (simp only [List.length_drop, List.length_take]; rfl)) ?_; (with_reducible refine (kernel_Valid.calls a3 false _ A20.out).mono ?_); rintro e w' ⟨rfl, ⟨nd, rfl⟩⟩; refine ⟨_, rfl, ?_⟩; (try (rw [drewN_self wc]; generalize hq_ : World.drewN wc _ = wc; have n0_ : Aside0 (wc.heap[E7]? = some (.cells #[.int .i64 a0_0, .int .i64 a0_1, .slice A0_2 l0_2.length c0_2] 24 (0, 0))) := ⟨by rw [← hq_]; exact (by exact zk0 E0)⟩; have n1_ : Aside0 (wc.heap[E6]? = some (.cells #[.int .i64 0, .int .i64 0, .slice none 0 0] 24 (0, 0))) := ⟨by rw [← hq_]; exact (by exact zk0 E1)⟩; have n2_ : Aside0 (Below w.heap.size w wc) := ⟨by rw [← hq_]; exact (by exact zb0 HB)⟩; clear E0 E1 HB hq_; have E0 := n0_; have E1 := n1_; have HB := n2_; clear n0_ n1_ n2_)); have E0C := G5.out; have E0D := G4.out; obtain ⟨E0E, E0F, E0G, E0H, E0I, E0J⟩ := zq3 E1))
    refine bodyPost_ret (results_ct rfl _ _ E6 24 #[.int .i64 0, .int .i64 0, .slice none 0 0] (0, 0) _ rfl (by exact zp E1 rfl) Try.underlying24 rfl (by kernel_rfl)) rfl ?_
    exact ⟨_, by first | rfl | (simp [errW_none, errW_some] <;> rfl) | (simp [*, errW_none, errW_some] <;> rfl), by first | exact Kd.R_nil _ _ _ _ _ | exact Kd.N_nil _ _ _ _ _ | exact Kd.V_nil _ _ _ _ _ | exact Kd.Q_nil _ _ _ _ _ | exact Kd.S_nil _ _ _ _ _, by exact zbo HB V2⟩
   subst c21
   rw [if_pos rfl] at H
   have H' := Aside0.mk H
   clear H
   go_wp2_with (first | ((with_reducible refine gate_callee (f := 25) rfl ?_); refine goesL_ (some 43) rfl rfl Try.func25 (by kernel_rfl) rfl #[.int .i64 a3] rfl (by (try simp only [List.map_toArray, List.map_cons, List.map_nil]); first | done | rfl | (simp only [List.length_drop, List.length_take]; rfl)) ?_; (with_reducible refine (kernel_Valid.calls a3 true _ A20.out).mono ?_); rintro e w' ⟨rfl, ⟨nd, rfl⟩⟩; refine ⟨_, rfl, ?_⟩; (try (rw [drewN_self wc]; generalize hq_ : World.drewN wc _ = wc; have n0_ : Aside0 (wc.heap[E7]? = some (.cells #[.int .i64 a0_0, .int .i64 a0_1, .slice A0_2 l0_2.length c0_2] 24 (0, 0))) := ⟨by rw [← hq_]; exact (by exact zk0 E0)⟩; have n1_ : Aside0 (wc.heap[E6]? = some (.cells #[.int .i64 0, .int .i64 0, .slice none 0 0] 24 (0, 0))) := ⟨by rw [← hq_]; exact (by exact zk0 E1)⟩; have n2_ : Aside0 (Below w.heap.size w wc) := ⟨by rw [← hq_]; exact (by exact zb0 HB)⟩; clear E0 E1 HB hq_; have E0 := n0_; have E1 := n1_; have HB := n2_; clear n0_ n1_ n2_)); have E0K := G4.out; have E0L := G5.out; obtain ⟨J8, J9, L0, L1, L2, L3⟩ := zq3 E0) | ((with_reducible refine gate_dst (N := 11) rfl ?_); refine box_event ?hg (N := 11) ?hd (cs := #[.int .i64 0, .int .i64 0, .slice none 0 0, .bool false]) (t := 60) ?hr ?_; (case hd => rfl); (case hg => rfl); (case hr => first | (go_simp; done) | (go_simp; rfl)); intro E8 hg w24 hbox hb; have E0M := zg HB hg; have Z8 := zg HB hg; have Y3 := zn E0 hg; have E0e := zn' E0 hg; have V3 := zn E1 hg; have L4 := zn' E1 hg; have n0_ := Aside0.mk (hbox); replace E0 := zk E0 hb; replace E1 := zk E1 hb; replace HB := zb HB hb; have E2 := n0_; clear n0_; clear hb hbox hg; have E0N := E0e.out; have E0O := Y3.out; have E0P := L4.out; have E0Q := V3.out; obtain ⟨L5, L6, L7, L8, L9, Q0, Q1, Q2⟩ := zq4 E2) | ((with_reducible refine gate_dst (N := 12) rfl ?_); refine box_event ?hg (N := 12) ?hd (cs := #[.int .i64 0, .int .i64 0, .slice none 0 0]) (t := 24) ?hr ?_; (case hd => rfl); (case hg => rfl); (case hr => first | (go_simp; done) | (go_simp; rfl)); intro E5 hg w28 hbox hb; have n0_ := Aside0.mk (blk_below (g := E8) (o := .cells #[.int .i64 a0_0, .int .i64 a0_1, .slice A0_2 l0_2.length c0_2, .bool true] 60 (0, 0)) (by exact zp E2 rfl) hb); have n1_ := Aside0.mk (below_step (by exact zbo HB Z8) hb); have n2_ := Aside0.mk (hbox); have n3_ := Aside0.mk ((by rw [hg]; exact (below_size (by exact zbo HB Z8)) : w.heap.size ≤ E5)); have n4_ := Aside0.mk ((by rw [hg]; exact (below_size (by exact zbo HB Z8)) : w.heap.size ≤ E5)); have n5_ := Aside0.mk ((by rw [hg]; exact Nat.ne_of_lt (blk_lt (zf E0 Y3)) : E7 ≠ E5)); have n6_ := Aside0.mk ((by rw [hg]; exact Nat.ne_of_gt (blk_lt (zf E0 Y3)) : E5 ≠ E7)); have n7_ := Aside0.mk ((by rw [hg]; exact Nat.ne_of_lt (blk_lt (zf E1 V3)) : E6 ≠ E5)); have n8_ := Aside0.mk ((by rw [hg]; exact Nat.ne_of_gt (blk_lt (zf E1 V3)) : E5 ≠ E6)); have n9_ := Aside0.mk ((by rw [hg]; exact Nat.ne_of_lt (blk_lt (g := E8) (o := .cells #[.int .i64 a0_0, .int .i64 a0_1, .slice A0_2 l0_2.length c0_2, .bool true] 60 (0, 0)) (by exact zp E2 rfl)) : E8 ≠ E5)); have n10_ := Aside0.mk ((by rw [hg]; exact Nat.ne_of_gt (blk_lt (g := E8) (o := .cells #[.int .i64 a0_0, .int .i64 a0_1, .slice A0_2 l0_2.length c0_2, .bool true] 60 (0, 0)) (by exact zp E2 rfl)) : E5 ≠ E8)); replace E0 := zfk E0 Y3 hb; replace E1 := zfk E1 V3 hb; clear E2; clear HB; have E2 := n0_; have HB := n1_; have E3 := n2_; have E0R := n3_; have Q3 := n4_; have V4 := n5_; have Z9 := n6_; have V5 := n7_; have J0 := n8_; have V6 := n9_; have J1 := n10_; clear n0_ n1_ n2_ n3_ n4_ n5_ n6_ n7_ n8_ n9_ n10_; clear hb hbox hg; have E0S := Z9.out; have E0T := V4.out; have E0U := J0.out; have E0V := V5.out; have E0W := J1.out; have E0X := V6.out; obtain ⟨Q4, Q5, Q6, Q7, Q8, Q9⟩ := zq3 E3))
   (try simp only [Act.put, sA, sB, sC])
   go_loopg [52] kj6 (fun kq v52 w' => ∃ (x52_2 : Int) (x297002_2 : List (S37)) (u297002 : Value), v52 = .int .i64 x52_2 ∧ Aside0 (sample_Resize.l0 kq a1 a2 a3 a2 x52_2 a0_0 a0_1 l0_2 a0_0 a0_1 l0_2 true a1 a2 x297002_2 = some (r1, r2, r3, r4)) ∧ Aside0 (kq ≤ kj6) ∧ Aside0 (Kd.R k37 37 w' w.heap.size (fun _ => True) u297002 x297002_2) ∧ Aside0 (w'.heap[E7]? = some (.cells #[.int .i64 a0_0, .int .i64 a0_1, (.slice A0_2 l0_2.length c0_2)] 24 (0, 0))) ∧ Aside0 (w'.heap[E6]? = some (.cells #[.int .i64 0, .int .i64 0, (.slice none 0 0)] 24 (0, 0))) ∧ Aside0 (w'.heap[E8]? = some (.cells #[.int .i64 a0_0, .int .i64 a0_1, (.slice A0_2 l0_2.length c0_2), .bool true] 60 (0, 0))) ∧ Aside0 (w'.heap[E5]? = some (.cells #[.int .i64 a1, .int .i64 a2, u297002] 24 (0, 0))) ∧ Aside0 (Below w.heap.size w w'))
   case atStart => exact ⟨(0), (([] : List (S37))), (.slice none 0 0), (by first | rfl | (simp; done) | (simp [*]; done)), H', ⟨Nat.le_refl _⟩, ⟨by first | exact Kd.R_nil _ _ _ _ _ | exact Kd.N_nil _ _ _ _ _ | exact Kd.V_nil _ _ _ _ _ | exact Kd.Q_nil _ _ _ _ _ | exact Kd.S_nil _ _ _ _ _⟩, ⟨by exact zf E0 V4⟩, ⟨by exact zf E1 V5⟩, ⟨by exact zf E2 V6⟩, ⟨by exact zp E3 rfl⟩, ⟨by exact zbo HB Q3⟩⟩
   case round =>
    clear H'
    try clear c1
    try clear c2
    try clear p2
    try clear c3
    try clear q3
    try clear q4
    try clear c6
    try clear V8
    try clear V9
    try clear c11
    try clear c12
    try clear G1
    try clear c13
    try clear Y0
    try clear c14
    try clear Y1
    try clear c15
    try clear Y2
    try clear c17
    try clear c18
    try clear c19
    try clear c21
    try clear c22
    try clear c25
    try clear c26
    try clear c29
    try clear c30
    try clear c31
    try clear Y6
    try clear Y7
    try clear Y8
    try clear Z2
    try clear Z3
    try clear Z4
    try clear J2
    try clear J3
    try clear J4
    try clear J8
    try clear J9
    try clear L0
    try clear L5
    try clear L6
    try clear L7
    try clear L8
    try clear Q4
    try clear Q5
    try clear Q6
    try clear Y9
    try clear Z0
    try clear Z1
    try clear Z5
    try clear Z6
    try clear Z7
    try clear J5
    try clear J6
    try clear J7
    try clear L1
    try clear L2
    try clear L3
    try clear L9
    try clear Q0
    try clear Q1
    try clear Q2
    try clear Q7
    try clear Q8
    try clear Q9
    try clear p2
    try clear q3
    obtain ⟨x52_2, x297002_2, u297002, rfl, HA, HK2, E4, E0, E1, E2, E3, HB⟩ := hrel
    cases gk with
    | zero => exact absurd HA.out (by simp [sample_Resize.l0])
    | succ k2 =>
     have H := HA.out
     clear HA
     simp only [sample_Resize.l0] at H
     by_cases c33 : x52_2 < a2
     rotate_left
     ·rw [if_neg c33] at H
      have E0a : decide (x52_2 < a2) = false := decide_eq_false c33
      clear c33
      simp only [Option.some.injEq, Prod.mk.injEq] at H
      obtain ⟨rfl, rfl, rfl, rfl⟩ := H
      have E0Y := Z9.out
      have E0Z := V4.out
      have E1a := J0.out
      have E1b := V5.out
      have E1c := J1.out
      have E1d := V6.out
      obtain ⟨E1e, E1f, E1g, E1h, E1i, E1j⟩ := zq3 E3
      have E1k := G5.out
      have E1l := G4.out
      have E1m := V3.out
      have E1n := L4.out
      obtain ⟨E1o, E1p, E1q, E1r, E1s, E1t⟩ := zq3 E1
      obtain ⟨Ao52, co52, eo52⟩ := Kd.R_slice E4.out
      subst eo52
      go_wp2
      refine bodyPost_ret (results_ct rfl _ _ E6 24 #[.int .i64 a1, .int .i64 a2, .slice Ao52 x297002_2.length co52] (0, 0) _ rfl (by exact zp E1 rfl) Try.underlying24 rfl (by kernel_rfl)) rfl ?_
      exact ⟨_, by first | rfl | (simp [errW_none, errW_some] <;> rfl) | (simp [*, errW_none, errW_some] <;> rfl), by exact zro E4 E1 (by decide), by exact zbo HB V2⟩
     rw [if_pos c33] at H
     have E0a : decide (x52_2 < a2) = true := decide_eq_true c33
     clear c33
     replace H := Option.bind_eq_some_iff.mp H
     obtain ⟨t297, A340, H⟩ := H
     try dsimp only at H
     have A34 := Aside0.mk A340
     clear A340
     have H' := Aside0.mk H
     clear H
     obtain ⟨E0f, E0g, E0h, E0i, E0j, E0k⟩ := zq3 E0
     go_wp2_with (first | ((with_reducible refine gate_callee (f := 39) rfl ?_); refine goesL_ (some 64) rfl rfl Try.func39 (by kernel_rfl) rfl #[.int .i64 (wrap64 ((wrap64 ((wrap64 ((wrap64 (2 * x52_2)) + 1)) * a0_1)) * 65536)), .int .i64 (wrap64 (2 * a2))] rfl (by (try simp only [List.map_toArray, List.map_cons, List.map_nil]); first | done | rfl | (simp only [List.length_drop, List.length_take]; rfl)) ?_; (with_reducible refine (num_Div.calls k2 (wrap64 ((wrap64 ((wrap64 ((wrap64 (2 * x52_2)) + 1)) * a0_1)) * 65536)) (wrap64 (2 * a2)) t297 _ A34.out).mono ?_); rintro e w' ⟨rfl, ⟨nd, rfl⟩⟩; refine ⟨_, rfl, ?_⟩))
     (try simp only [Act.put, sA, sB, sC])
     go_loopg [66] k2 (fun kq v66 w' => ∃ (x66_3 : Int) (x297002_3 : List (S37)) (u297002 : Value), v66 = .int .i64 x66_3 ∧ Aside0 (sample_Resize.l1 kq a1 a2 a3 t297 a2 x52_2 a1 x66_3 a0_0 a0_1 l0_2 a0_0 a0_1 l0_2 true a1 a2 x297002_3 = some (r1, r2, r3, r4)) ∧ Aside0 (kq ≤ k2) ∧ Aside0 (Kd.R k37 37 w' w.heap.size (fun _ => True) u297002 x297002_3) ∧ Aside0 (w'.heap[E7]? = some (.cells #[.int .i64 a0_0, .int .i64 a0_1, (.slice A0_2 l0_2.length c0_2)] 24 (0, 0))) ∧ Aside0 (w'.heap[E6]? = some (.cells #[.int .i64 0, .int .i64 0, (.slice none 0 0)] 24 (0, 0))) ∧ Aside0 (w'.heap[E8]? = some (.cells #[.int .i64 a0_0, .int .i64 a0_1, (.slice A0_2 l0_2.length c0_2), .bool true] 60 (0, 0))) ∧ Aside0 (w'.heap[E5]? = some (.cells #[.int .i64 a1, .int .i64 a2, u297002] 24 (0, 0))) ∧ Aside0 (Below w.heap.size w w'))
     case atStart => exact ⟨(0), (x297002_2), (u297002), (by first | rfl | (simp; done) | (simp [*]; done)), H', ⟨Nat.le_refl _⟩, ⟨by exact zr0 E4⟩, ⟨by exact zk0 E0⟩, ⟨by exact zk0 E1⟩, ⟨by exact zk0 E2⟩, ⟨by exact zk0 E3⟩, ⟨by exact zb0 HB⟩⟩
     case round =>
      clear H'
      try clear c1
      try clear c2
      try clear p2
      try clear c3
      try clear q3
      try clear q4
      try clear c6
      try clear V8
      try clear V9
      try clear p6
      try clear c11
      try clear c12
      try clear G1
      try clear c13
      try clear Y0
      try clear c14
      try clear Y1
      try clear c15
      try clear Y2
      try clear c17
      try clear c18
      try clear c19
      try clear c21
      try clear c22
      try clear c25
      try clear c26
      try clear c29
      try clear c30
      try clear c31
      try clear c33
      try clear E0a
      try clear Y6
      try clear Y7
      try clear Y8
      try clear Z2
      try clear Z3
      try clear Z4
      try clear J2
      try clear J3
      try clear J4
      try clear J8
      try clear J9
      try clear L0
      try clear L5
      try clear L6
      try clear L7
      try clear L8
      try clear Q4
      try clear Q5
      try clear Q6
      try clear E0f
      try clear E0g
      try clear E0h
      try clear Y9
      try clear Z0
      try clear Z1
      try clear Z5
      try clear Z6
      try clear Z7
      try clear J5
      try clear J6
      try clear J7
      try clear L1
      try clear L2
      try clear L3
      try clear L9
      try clear Q0
      try clear Q1
      try clear Q2
      try clear Q7
      try clear Q8
      try clear Q9
      try clear E0i
      try clear E0j
      try clear E0k
      try clear p2
      try clear q3
      try clear q4
      obtain ⟨x66_3, x297002_3, u297002, rfl, HA, HK3, E4, E0, E1, E2, E3, HB⟩ := hrel
      cases gk with
      | zero => exact absurd HA.out (by simp [sample_Resize.l1])
      | succ k3 =>
       have H := HA.out
       clear HA
       simp only [sample_Resize.l1] at H
       by_cases c36 : x66_3 < a1
       rotate_left
       ·rw [if_neg c36] at H
        have E0l : decide (x66_3 < a1) = false := decide_eq_false c36
        clear c36
        have H' := Aside0.mk H
        clear H
        go_wp2
        go_roundg k3
        case measure => have := HJ6.out; have := HK2.out; have := HK3.out; omega
        case rel => exact ⟨(wrap64 (x52_2 + 1)), (x297002_3), (u297002), (by first | rfl | (simp; done) | (simp [*]; done)), H', ⟨by have := HJ6.out; have := HK2.out; have := HK3.out; omega⟩, ⟨by exact zr0 E4⟩, ⟨by exact zk0 E0⟩, ⟨by exact zk0 E1⟩, ⟨by exact zk0 E2⟩, ⟨by exact zk0 E3⟩, ⟨by exact zb0 HB⟩⟩
       rw [if_pos c36] at H
       have E0l : decide (x66_3 < a1) = true := decide_eq_true c36
       clear c36
       replace H := Option.bind_eq_some_iff.mp H
       obtain ⟨t298, A370, H⟩ := H
       try dsimp only at H
       have A37 := Aside0.mk A370
       clear A370
       replace H := Option.bind_eq_some_iff.mp H
       obtain ⟨⟨t299, t300, t301, t302⟩, A380, H⟩ := H
       try dsimp only at H
       have A38 := Aside0.mk A380
       clear A380
       by_cases c39 : x297002_3.length < 4398046511104
       rotate_left
       ·rw [if_neg c39] at H
        exact absurd H (by simp)
       rw [if_pos c39] at H
       have LMc39 := Aside0.mk c39
       clear c39
       obtain ⟨y303, hy303⟩ : ∃ y_ : List (S37), y_ = (x297002_3 ++ [(⟨t299, t300, t301, t302⟩ : S37)]) := ⟨_, rfl⟩
       replace H : (sample_Resize.l1 k3 a1 a2 a3 t297 a2 x52_2 a1 (wrap64 (x66_3 + 1)) a0_0 a0_1 l0_2 a0_0 a0_1 l0_2 true a1 a2 y303) = some (r1, r2, r3, r4) := by first | (rw [hy303]; with_reducible exact H) | (have H2_ := (Option.bind_some _ _).symm.trans H; rw [hy303]; with_reducible exact H2_) | (have H2_ := (Option.bind_some _ _).symm.trans H; with_reducible exact H2_) | with_reducible exact H | (rw [hy303]; exact H) | exact H
       have Ny303 := Aside0.mk hy303
       clear hy303
       have H' := Aside0.mk H
       clear H
       try go_wp2
       replace E4 := zrd E4
       replace E0 := zkd E0
       replace E1 := zkd E1
       replace E2 := zkd E2
       replace E3 := zkd E3
       replace HB := zbd HB
       refine start_ (n := 20) (S := fun w' => w'.cell? ⟨E5, 0, none⟩ = some (.int .i64 a1) ∧ w'.cell? ⟨E5, 1, none⟩ = some (.int .i64 a2) ∧ w'.cell? ⟨E5, 2, none⟩ = some (u297002) ∧ w'.cell? ⟨E8, 0, none⟩ = some (.int .i64 a0_0) ∧ w'.cell? ⟨E8, 1, none⟩ = some (.int .i64 a0_1) ∧ w'.cell? ⟨E8, 2, none⟩ = some (.slice A0_2 l0_2.length c0_2) ∧ w'.cell? ⟨E8, 3, none⟩ = some (.bool true) ∧ w'.cell? ⟨E7, 0, none⟩ = some (.int .i64 a0_0) ∧ w'.cell? ⟨E7, 1, none⟩ = some (.int .i64 a0_1) ∧ w'.cell? ⟨E7, 2, none⟩ = some (.slice A0_2 l0_2.length c0_2)) (ds := [19]) (bs 20 0) (by kernel_rfl) rfl rfl ⟨(blk_cell E3.out 0).trans rfl, (blk_cell E3.out 1).trans rfl, (blk_cell E3.out 2).trans rfl, (blk_cell E2.out 0).trans rfl, (blk_cell E2.out 1).trans rfl, (blk_cell E2.out 2).trans rfl, (blk_cell E2.out 3).trans rfl, (blk_cell E0.out 0).trans rfl, (blk_cell E0.out 1).trans rfl, (blk_cell E0.out 2).trans rfl⟩ (fun hHeld => ?_); refine with_tabW sample_Resize.tab17 sample_Resize.bits17 (fun HT_ HW_ => ?_)
       generalize wr.drew = w40 at E4 E0 E1 E2 E3 HB hHeld ⊢
       refine pure_ (i := 0) (N := some 69) (v := ?_) (a' := ?_) (bs 20 1) rfl rfl (any_of HT_.out (by kernel_rfl)) (fun _ _ _ h => h) (Or.inl ⟨by rfl, ?_⟩) ?_ ?_
       rotate_left
       ·intro w'
        go_simp
        with_reducible rfl
       rotate_left
       ·simp only [Act.put, sA, sB, sC, i64_w, i32_w]
        rfl
       refine pure_ (i := 3) (N := some 72) (v := ?_) (a' := ?_) (bs 20 9) rfl rfl (any_of HT_.out (by kernel_rfl)) (fun _ _ _ h => h) (Or.inl ⟨by rfl, ?_⟩) ?_ ?_
       rotate_left
       ·intro w'
        go_simp
        with_reducible rfl
       rotate_left
       ·simp only [Act.put, sA, sB, sC, i64_w, i32_w]
        rfl
       refine pure_ (i := 4) (N := some 73) (v := ?_) (a' := ?_) (bs 20 25) rfl rfl (any_of HT_.out (by kernel_rfl)) (fun _ _ _ h => h) (Or.inl ⟨by rfl, ?_⟩) ?_ ?_
       rotate_left
       ·intro w'
        go_simp
        with_reducible rfl
       rotate_left
       ·simp only [Act.put, sA, sB, sC, i64_w, i32_w]
        rfl
       refine pure_ (i := 5) (N := some 74) (v := ?_) (a' := ?_) (bs 20 57) rfl rfl (any_of HT_.out (by kernel_rfl)) (fun _ _ _ h => h) (Or.inl ⟨by rfl, ?_⟩) ?_ ?_
       rotate_left
       ·intro w'
        go_simp
        with_reducible rfl
       rotate_left
       ·simp only [Act.put, sA, sB, sC, i64_w, i32_w]
        rfl
       refine pure_ (i := 6) (N := some 75) (v := ?_) (a' := ?_) (bs 20 121) rfl rfl (any_of HT_.out (by kernel_rfl)) (fun _ _ _ h => h) (Or.inl ⟨by rfl, ?_⟩) ?_ ?_
       rotate_left
       ·intro w'
        go_simp
        with_reducible rfl
       rotate_left
       ·simp only [Act.put, sA, sB, sC, i64_w, i32_w]
        rfl
       refine pure_ (i := 7) (N := some 76) (v := ?_) (a' := ?_) (bs 20 249) rfl rfl (any_of HT_.out (by kernel_rfl)) (fun _ _ _ h => h) (Or.inl ⟨by rfl, ?_⟩) ?_ ?_
       rotate_left
       ·intro w'
        go_simp
        with_reducible rfl
       rotate_left
       ·simp only [Act.put, sA, sB, sC, i64_w, i32_w]
        rfl
       refine pure_ (i := 11) (N := some 80) (v := ?_) (a' := ?_) (bs 20 2297) rfl rfl (any_of HT_.out (by kernel_rfl)) (fun _ _ _ h => h) (Or.inl ⟨by rfl, ?_⟩) ?_ ?_
       rotate_left
       ·intro w'
        go_simp
        with_reducible rfl
       rotate_left
       ·simp only [Act.put, sA, sB, sC, i64_w, i32_w]
        rfl
       refine pure_ (i := 12) (N := some 81) (v := ?_) (a' := ?_) (bs 20 6393) rfl rfl (any_of HT_.out (by kernel_rfl)) (fun _ _ _ h => h) (Or.inl ⟨by rfl, ?_⟩) ?_ ?_
       rotate_left
       ·intro w'
        go_simp
        with_reducible rfl
       rotate_left
       ·simp only [Act.put, sA, sB, sC, i64_w, i32_w]
        rfl
       refine pure_ (i := 14) (N := some 83) (v := ?_) (a' := ?_) (bs 20 22777) rfl rfl (any_of HT_.out (by kernel_rfl)) (fun _ _ _ h => h) (Or.inl ⟨by rfl, ?_⟩) ?_ ?_
       rotate_left
       ·intro w'
        go_simp
        with_reducible rfl
       rotate_left
       ·simp only [Act.put, sA, sB, sC, i64_w, i32_w]
        rfl
       refine take_ (i := 1) (N := some 70) (v := ?_) (a' := ?_) (bs 20 22779) rfl rfl (take_ofW HT_.out HW_.out (by kernel_rfl)) (fun _ _ _ h => h) (Or.inl ⟨by rfl, ?_⟩) hHeld ?_ ?_
       rotate_left
       ·rintro w' ⟨s0, s1, s2, s3, s4, s5, s6, s7, s8, s9⟩
        go_simp
        with_reducible rfl
       rotate_left
       ·simp only [Act.put, sA, sB, sC, i64_w, i32_w]
        rfl
       refine take_ (i := 2) (N := some 71) (v := ?_) (a' := ?_) (bs 20 22783) rfl rfl (take_ofW HT_.out HW_.out (by kernel_rfl)) (fun _ _ _ h => h) (Or.inl ⟨by rfl, ?_⟩) hHeld ?_ ?_
       rotate_left
       ·rintro w' ⟨s0, s1, s2, s3, s4, s5, s6, s7, s8, s9⟩
        go_simp
        with_reducible rfl
       rotate_left
       ·simp only [Act.put, sA, sB, sC, i64_w, i32_w]
        rfl
       refine take_ (i := 8) (N := some 77) (v := ?_) (a' := ?_) (bs 20 23039) rfl rfl (take_ofW HT_.out HW_.out (by kernel_rfl)) (fun _ _ _ h => h) (Or.inl ⟨by rfl, ?_⟩) hHeld ?_ ?_
       rotate_left
       ·rintro w' ⟨s0, s1, s2, s3, s4, s5, s6, s7, s8, s9⟩
        go_simp
        with_reducible rfl
       rotate_left
       ·simp only [Act.put, sA, sB, sC, i64_w, i32_w]
        rfl
       refine pure_ (i := 9) (N := some 78) (v := ?_) (a' := ?_) (bs 20 23551) rfl rfl (any_of HT_.out (by kernel_rfl)) (fun _ _ _ h => h) (Or.inl ⟨by rfl, ?_⟩) ?_ ?_
       rotate_left
       ·intro w'
        go_simp
        with_reducible rfl
       rotate_left
       ·simp only [Act.put, sA, sB, sC, i64_w, i32_w]
        rfl
       refine pure_ (i := 10) (N := some 79) (v := ?_) (a' := ?_) (bs 20 24575) rfl rfl (any_of HT_.out (by kernel_rfl)) (fun _ _ _ h => h) (Or.inl ⟨by rfl, ?_⟩) ?_ ?_
       rotate_left
       ·intro w'
        go_simp
        with_reducible rfl
       rotate_left
       ·simp only [Act.put, sA, sB, sC, i64_w, i32_w]
        rfl
       refine one_ (i := 13) (N := some 82) (bs 20 32767) rfl rfl (one_of HT_.out (by kernel_rfl)) (by decide) (fun K hK => ?_)
       refine goes_ Try.func39 (by kernel_rfl) rfl #[.int .i64 (wrap64 ((wrap64 ((wrap64 ((wrap64 (2 * x66_3)) + 1)) * a0_0)) * 65536)), .int .i64 (wrap64 (2 * a1))] (by rfl) rfl rfl (by (try simp only [List.map_toArray, List.map_cons, List.map_nil]); first | done | rfl | (simp only [List.length_drop, List.length_take]; rfl)) ?_
       with_reducible refine (num_Div.calls k3 (wrap64 ((wrap64 ((wrap64 ((wrap64 (2 * x66_3)) + 1)) * a0_0)) * 65536)) (wrap64 (2 * a1)) t298 _ A37.out).mono ?_
       rintro e w' ⟨rfl, ⟨nd, rfl⟩⟩
       refine ⟨_, rfl, ?_⟩
       refine hK.out _ _ ⟨(blk_cell E3.out 0).trans rfl, (blk_cell E3.out 1).trans rfl, (blk_cell E3.out 2).trans rfl, (blk_cell E2.out 0).trans rfl, (blk_cell E2.out 1).trans rfl, (blk_cell E2.out 2).trans rfl, (blk_cell E2.out 3).trans rfl, (blk_cell E0.out 0).trans rfl, (blk_cell E0.out 1).trans rfl, (blk_cell E0.out 2).trans rfl⟩ (fun hHeld => ?_)
       clear hK K
       refine norm_ (a' := ?_) ?_ ?_
       rotate_left
       ·show Act.put _ (some 82) _ = _
        simp only [Act.put, sA, sB, sC, i64_w, i32_w]
        rfl
       refine one_ (i := 15) (N := some 84) (bs 20 65535) rfl rfl (one_of HT_.out (by kernel_rfl)) (by decide) (fun K hK => ?_)
       refine goes_ Try.func28 (by kernel_rfl) rfl #[.agg #[.int .i64 a0_0, .int .i64 a0_1, .slice A0_2 l0_2.length c0_2, .bool true], .int .i64 a3, .int .i64 t298, .int .i64 t297] (by rfl) rfl rfl (by (try simp only [List.map_toArray, List.map_cons, List.map_nil]); first | done | rfl | (simp only [List.length_drop, List.length_take]; rfl)) ?_
       with_reducible refine (sample_source_at.calls k3 a0_0 a0_1 _ _ l0_2 true a3 t298 t297 t299 t300 t301 t302 _ ?side1 ?side2 A38.out).mono ?_
       (case side1 => repeat (first | exact (Kd.C_below Y4.out (by exact zb0 HB)) | (with_reducible refine Kd.C_alloc ?_ _) | (with_reducible refine Kd.C_drewN ?_ _) | (with_reducible refine Kd.C_drew ?_)))
       (case side2 => exact Y5.out)
       rintro e w41 ⟨rfl, hb⟩
       refine ⟨_, rfl, ?_⟩
       replace E4 := zr E4 hb
       replace E0 := zk E0 hb
       replace E1 := zk E1 hb
       replace E2 := zk E2 hb
       replace E3 := zk E3 hb
       replace HB := zb HB hb
       (try clear hb)
       (try clear hb2)
       (try clear hk)
       (try clear hi)
       refine hK.out _ _ ⟨(blk_cell E3.out 0).trans rfl, (blk_cell E3.out 1).trans rfl, (blk_cell E3.out 2).trans rfl, (blk_cell E2.out 0).trans rfl, (blk_cell E2.out 1).trans rfl, (blk_cell E2.out 2).trans rfl, (blk_cell E2.out 3).trans rfl, (blk_cell E0.out 0).trans rfl, (blk_cell E0.out 1).trans rfl, (blk_cell E0.out 2).trans rfl⟩ (fun hHeld => ?_)
       clear hK K
       refine norm_ (a' := ?_) ?_ ?_
       rotate_left
       ·show Act.put _ (some 84) _ = _
        simp only [Act.put, sA, sB, sC, i64_w, i32_w]
        rfl
       refine one_ (i := 16) (N := some 85) (bs 20 131071) rfl rfl (one_of HT_.out (by kernel_rfl)) (by decide) (fun K hK => ?_)
       refine value_ (w1 := ?_) (v := ?_) (by rfl) rfl ?_ ?_
       rotate_left 2
       ·go_simp
        constructor
        ·rfl
        ·rfl
       refine hK.out _ _ ⟨(blk_cell (blk_alloc E3.out _) 0).trans rfl, (blk_cell (blk_alloc E3.out _) 1).trans rfl, (blk_cell (blk_alloc E3.out _) 2).trans rfl, (blk_cell (blk_alloc E2.out _) 0).trans rfl, (blk_cell (blk_alloc E2.out _) 1).trans rfl, (blk_cell (blk_alloc E2.out _) 2).trans rfl, (blk_cell (blk_alloc E2.out _) 3).trans rfl, (blk_cell (blk_alloc E0.out _) 0).trans rfl, (blk_cell (blk_alloc E0.out _) 1).trans rfl, (blk_cell (blk_alloc E0.out _) 2).trans rfl⟩ (fun hHeld => ?_)
       clear hK K
       refine norm_ (a' := ?_) ?_ ?_
       rotate_left
       ·show Act.put _ (some 85) _ = _
        simp only [Act.put, sA, sB, sC, i64_w, i32_w]
        rfl
       refine one_ (i := 17) (N := some 86) (bs 20 262143) rfl rfl (one_of HT_.out (by kernel_rfl)) (by decide) (fun K hK => ?_)
       refine Kd.R_append_step k37 (w0 := w) w.heap.size (by rfl) (.tmp 70) (.tmp 85) 22 37 (.agg #[(.int .i64 0), (.int .i64 0), (.int .i64 0), (.int .i64 0)]) 32 rfl Try.underlying22 info37 rfl (by decide) (by omega) u297002 x297002_3 (⟨t299, t300, t301, t302⟩ : S37) [.int .i64 t299, .int .i64 t300, .int .i64 t301, .int .i64 t302] (fun _ => True) (fun _ => False) rfl rfl ?aP (fun _ hk => hk.elim) ?aF ?aO ?aB ?aS ?aL ?_
       (case aP => exact k37_mkM _ _ _ (⟨t299, t300, t301, t302⟩ : S37))
       (case aB => exact (by exact zb0 HB))
       (case aF => exact (fun _ _ => trivial))
       (case aO => exact (by exact zr0 E4))
       (case aS => exact (below_size (by exact zb0 HB)))
       (case aL => have := LMc39.out; omega)
       intro v304 w42 ho hb hg hat
       rw [← Ny303.out] at ho
       have n0_ := Aside0.mk (blk_grown (zk0 E0) hg (Kd.R_ne E4.out E0.out (by decide)))
       have n1_ := Aside0.mk (blk_grown (zk0 E1) hg (Kd.R_ne E4.out E1.out (by decide)))
       have n2_ := Aside0.mk (blk_grown (zk0 E2) hg (Kd.R_ne E4.out E2.out (by decide)))
       have n3_ := Aside0.mk (blk_grown (zk0 E3) hg (Kd.R_ne E4.out E3.out (by decide)))
       have n4_ := Aside0.mk (hb)
       have n5_ := Aside0.mk (ho)
       clear E0
       clear E1
       clear E2
       clear E3
       clear HB
       clear E4
       have E0 := n0_
       have E1 := n1_
       have E2 := n2_
       have E3 := n3_
       have HB := n4_
       have HO305 := n5_
       clear n0_ n1_ n2_ n3_ n4_ n5_
       clear ho hb hg hat
       obtain ⟨Ao43, co43, eo43⟩ := Kd.R_slice HO305.out
       (first | subst eo43 | (injection eo43 with f1_ f2_ f3_; have f4_ := f1_.symm; have f5_ := f3_.symm; clear f1_ f2_ f3_; subst f4_; subst f5_))
       refine hK.out _ _ ⟨(blk_cell E3.out 0).trans rfl, (blk_cell E3.out 1).trans rfl, (blk_cell E3.out 2).trans rfl, (blk_cell E2.out 0).trans rfl, (blk_cell E2.out 1).trans rfl, (blk_cell E2.out 2).trans rfl, (blk_cell E2.out 3).trans rfl, (blk_cell E0.out 0).trans rfl, (blk_cell E0.out 1).trans rfl, (blk_cell E0.out 2).trans rfl⟩ (fun hHeld => ?_)
       clear hK K
       refine norm_ (a' := ?_) ?_ ?_
       rotate_left
       ·show Act.put _ (some 86) _ = _
        simp only [Act.put, sA, sB, sC, i64_w, i32_w]
        rfl
       refine pure_ (i := 18) (N := some 87) (v := ?_) (a' := ?_) (bs 20 524287) rfl rfl (any_of HT_.out (by kernel_rfl)) (fun _ _ _ h => h) (Or.inl ⟨by rfl, ?_⟩) ?_ ?_
       rotate_left
       ·intro w'
        go_simp
        with_reducible rfl
       rotate_left
       ·simp only [Act.put, sA, sB, sC, i64_w, i32_w]
        rfl
       refine last_ (i := 19) (N := none) (bs 20 1048575) rfl rfl (one_of HT_.out (by kernel_rfl)) (by decide) (fun K hK => ?_)
       have hs44 : w42.cell? ⟨E5, 2, none⟩ = some (u297002) := (blk_cell E3.out 2).trans rfl
       have hfs44 := blk_frozen E3.out 2
       have E1u := V4.out
       have E1v := V5.out
       have E1w := V6.out
       have E1x := Z9.out
       have E1y := J0.out
       have E1z := J1.out
       refine skip_ (w1 := ?_) (by rfl) rfl ?_ ?_
       rotate_left
       ·go_simp
        rfl
       refine hK.out _ _ ?_
       clear hK K
       refine done_ (done_of HT_.out (by kernel_rfl)) ?_
       try go_wp2
       go_roundg k3
       case measure => have := HJ6.out; have := HK2.out; have := HK3.out; omega
       case rel => exact ⟨(wrap64 (x66_3 + 1)), (y303), (.slice Ao43 y303.length co43), (by first | rfl | (simp; done) | (simp [*]; done)), H', ⟨by have := HJ6.out; have := HK2.out; have := HK3.out; omega⟩, ⟨by exact zro HO305 E3 (by decide)⟩, ⟨by exact zf E0 V4⟩, ⟨by exact zf E1 V5⟩, ⟨by exact zf E2 V6⟩, ⟨by exact zp E3 rfl⟩, ⟨by exact zbo HB Q3⟩⟩
/-! ### affine_Box_1: function 67 -/
def affine_Box_1.f (k : Nat) (a0 : Int) (a1 : Int) (a2_0 : Int) (a2_1 : Int) (a2_2 : Int) (a2_3 : Int) (a2_4 : Int) (a2_5 : Int) : Option (Int × Int) := (affine_Apply.f k a2_0 a2_1 a2_2 a2_3 a2_4 a2_5 (wrap64 (a0 * 65536)) (wrap64 (a1 * 65536))).bind fun E1 => (some (E1.1, E1.2))
theorem affine_Box_1.mono : ∀ a0 a1 a2 a3 a4 a5 a6 a7 k, LeO (affine_Box_1.f k a0 a1 a2 a3 a4 a5 a6 a7) (affine_Box_1.f (k + 1) a0 a1 a2 a3 a4 a5 a6 a7) := by
 intro a0 a1 a2 a3 a4 a5 a6 a7 k
 unfold affine_Box_1.f
 repeat' first
   | (with_reducible exact affine_Apply.mono _ _ _ _ _ _ _ _ _)
   | (with_reducible exact LeO.refl _)
   | (with_reducible exact LeO.none _)
   | (with_reducible refine LeO.ite ?_ ?_)
   | (with_reducible refine LeO.bind ?_ (fun _ => ?_))
   | exact affine_Apply.mono _ _ _ _ _ _ _ _ _
   | exact LeO.none _
   | refine LeO.ite ?_ ?_
   | refine LeO.bind ?_ (fun _ => ?_)
set_option maxHeartbeats 8000000 in
set_option maxRecDepth 100000 in
theorem affine_Box_1.calls (k : Nat) (a0 : Int) (a1 : Int) (E3 : Nat) (a2_0 : Int) (a2_1 : Int) (a2_2 : Int) (a2_3 : Int) (a2_4 : Int) (a2_5 : Int) (r1 : Int) (r2 : Int) (w : World) (hp2_0 : w.heap[E3]? = some (.cells #[.int .i64 a2_0, .int .i64 a2_1, .int .i64 a2_2, .int .i64 a2_3, .int .i64 a2_4, .int .i64 a2_5] 32 (0, 0))) (h : affine_Box_1.f k a0 a1 a2_0 a2_1 a2_2 a2_3 a2_4 a2_5 = some (r1, r2)) :
  Calls Try.prog 67 #[.int .i64 a0, .int .i64 a1, .pointer (some ⟨E3, 0, none⟩)] w fun e w' => e = .returned (.agg #[.int .i64 r1, .int .i64 r2]) ∧ Below w.heap.size w w' := by
 have hu54 := Try.underlying54
 have hu32 := Try.underlying32
 have E0 := Aside0.mk hp2_0
 have GL306 := Aside0.mk (show E3 < w.heap.size from blk_lt hp2_0)
 clear hp2_0
 have HB := Aside0.mk (Below.refl w.heap.size w)
 have H : ((affine_Apply.f k a2_0 a2_1 a2_2 a2_3 a2_4 a2_5 (wrap64 (a0 * 65536)) (wrap64 (a1 * 65536))).bind fun E1 => (some (E1.1, E1.2))) = some (r1, r2) := h
 clear h
 replace H := Option.bind_eq_some_iff.mp H
 obtain ⟨⟨t308, t309⟩, A40, H⟩ := H
 try dsimp only at H
 have A4 := Aside0.mk A40
 clear A40
 simp only [Option.some.injEq, Prod.mk.injEq] at H
 obtain ⟨rfl, rfl⟩ := H
 go_enter Try.func67, Try.ntmps67
 go_wp2_with (first | ((with_reducible refine gate_dst (N := 5) rfl ?_); refine box_event ?hg (N := 5) ?hd (cs := #[.int .i64 0, .int .i64 0]) (t := 54) ?hr ?_; (case hd => rfl); (case hg => rfl); (case hr => first | (go_simp; done) | (go_simp; rfl)); intro E4 hg w5 hbox hb; have E8 := zg HB hg; have E5 := zg HB hg; have E6 := zn E0 hg; have E7 := zn' E0 hg; have n0_ := Aside0.mk (hbox); replace E0 := zk E0 hb; replace HB := zb HB hb; have E2 := n0_; clear n0_; clear hb hbox hg; have E9 := E6.out; have G0 := E7.out; obtain ⟨G1, G2, G3, G4, G5, G6, G7, G8, G9, V0, V1, V2⟩ := zq6 E0) | ((with_reducible refine gate_callee (f := 27) rfl ?_); refine goesL_ (some 12) rfl rfl Try.func27 (by kernel_rfl) rfl #[.agg #[.int .i64 a2_0, .int .i64 a2_1, .int .i64 a2_2, .int .i64 a2_3, .int .i64 a2_4, .int .i64 a2_5], .agg #[.int .i64 (wrap64 (a0 * 65536)), .int .i64 (wrap64 (a1 * 65536))]] rfl (by (try simp only [List.map_toArray, List.map_cons, List.map_nil]); first | done | rfl | (simp only [List.length_drop, List.length_take]; rfl)) ?_; (with_reducible refine (affine_Apply.calls k a2_0 a2_1 a2_2 a2_3 a2_4 a2_5 (wrap64 (a0 * 65536)) (wrap64 (a1 * 65536)) t308 t309 _ A4.out).mono ?_); rintro e w8 ⟨rfl, hb⟩; refine ⟨_, rfl, ?_⟩; replace E0 := zk E0 hb; replace E2 := zk E2 hb; replace HB := zb HB hb; (try clear hb); obtain ⟨V3, V4, V5, V6⟩ := zq2 E2))
 refine bodyPost_ret (results_cell_row rfl _ _ E4 54 #[.int .i64 t308, .int .i64 t309] (0, 0) _ rfl (by exact zp E2 rfl) Try.underlying54 rfl (by kernel_rfl)) rfl ?_
 exact ⟨by first | rfl | (simp [errW_none, errW_some] <;> rfl) | (simp [*, errW_none, errW_some] <;> rfl), by exact zbo HB E5⟩

/-! ### affine_Box_2: function 68 -/
def affine_Box_2.f (a0 : Int) : Option (Int) := (num_Floor.f a0 65536).bind fun t310 => (some (mx t310 (-1048576)))
set_option maxHeartbeats 8000000 in
set_option maxRecDepth 100000 in
theorem affine_Box_2.calls (a0 : Int) (r : Int) (w : World) (h : affine_Box_2.f a0 = some r) :
  Calls Try.prog 68 #[.int .i64 a0] w fun e w' => e = .returned (.int .i64 r) ∧ Below w.heap.size w w' := by
 have HB := Aside0.mk (Below.refl w.heap.size w)
 have H : ((num_Floor.f a0 65536).bind fun t310 => (some (mx t310 (-1048576)))) = some r := h
 clear h
 replace H := Option.bind_eq_some_iff.mp H
 obtain ⟨t310, A20, H⟩ := H
 try dsimp only at H
 have A2 := Aside0.mk A20
 clear A20
 obtain ⟨E1, E0⟩ : ∃ j_ : Int, (mx t310 (-1048576)) = j_ := ⟨_, rfl⟩
 replace H : (some E1) = some r := by first | (rw [E0] at H; exact H) | (simp only [E0] at H ⊢; exact H)
 (try rw [E0] at A2)
 have hji3_ : (if t310 < (-1048576) then (-1048576) else t310) = E1 := E0
 obtain rfl := Option.some.inj H
 go_enter Try.func68, Try.ntmps68
 go_wp2_with (first | ((with_reducible refine gate_callee (f := 64) rfl ?_); refine goesL_ (some 4) rfl rfl Try.func64 (by kernel_rfl) rfl #[.int .i64 a0, .int .i64 65536] rfl (by (try simp only [List.map_toArray, List.map_cons, List.map_nil]); first | done | rfl | (simp only [List.length_drop, List.length_take]; rfl)) ?_; (with_reducible refine (num_Floor.calls a0 65536 t310 _ A2.out).mono ?_); rintro e w' ⟨rfl, ⟨nd, rfl⟩⟩; refine ⟨_, rfl, ?_⟩))
 go_ret
 exact ⟨by first | rfl | (simp [errW_none, errW_some] <;> rfl) | (simp only [← E0]; first | rfl | (simp [errW_none, errW_some] <;> rfl)) | (simp [*, errW_none, errW_some] <;> rfl), by exact zb0 HB⟩

/-! ### affine_Box_3: function 69 -/
def affine_Box_3.f (a0 : Int) : Option (Int) := (num_Floor.f (wrap64 (-a0)) 65536).bind fun t311 => (some (mn (wrap64 (-t311)) 1048576))
set_option maxHeartbeats 8000000 in
set_option maxRecDepth 100000 in
theorem affine_Box_3.calls (a0 : Int) (r : Int) (w : World) (h : affine_Box_3.f a0 = some r) :
  Calls Try.prog 69 #[.int .i64 a0] w fun e w' => e = .returned (.int .i64 r) ∧ Below w.heap.size w w' := by
 have HB := Aside0.mk (Below.refl w.heap.size w)
 have H : ((num_Floor.f (wrap64 (-a0)) 65536).bind fun t311 => (some (mn (wrap64 (-t311)) 1048576))) = some r := h
 clear h
 replace H := Option.bind_eq_some_iff.mp H
 obtain ⟨t311, A20, H⟩ := H
 try dsimp only at H
 have A2 := Aside0.mk A20
 clear A20
 obtain ⟨E1, E0⟩ : ∃ j_ : Int, (mn (wrap64 (-t311)) 1048576) = j_ := ⟨_, rfl⟩
 replace H : (some E1) = some r := by first | (rw [E0] at H; exact H) | (simp only [E0] at H ⊢; exact H)
 (try rw [E0] at A2)
 (try (have hji3h : E1 ≤ 1048576 := by (rw [← E0]; unfold mn; (repeat' split) <;> omega)))
 (try (have hji3g : E1 ≤ 64 := by omega))
 have hji3_ : (if 1048576 < (wrap64 (-t311)) then 1048576 else (wrap64 (-t311))) = E1 := E0
 obtain rfl := Option.some.inj H
 go_enter Try.func69, Try.ntmps69
 go_wp2_with (first | ((with_reducible refine gate_callee (f := 64) rfl ?_); refine goesL_ (some 5) rfl rfl Try.func64 (by kernel_rfl) rfl #[.int .i64 (wrap64 (-a0)), .int .i64 65536] rfl (by (try simp only [List.map_toArray, List.map_cons, List.map_nil]); first | done | rfl | (simp only [List.length_drop, List.length_take]; rfl)) ?_; (with_reducible refine (num_Floor.calls (wrap64 (-a0)) 65536 t311 _ A2.out).mono ?_); rintro e w' ⟨rfl, ⟨nd, rfl⟩⟩; refine ⟨_, rfl, ?_⟩))
 go_ret
 exact ⟨by first | rfl | (simp [errW_none, errW_some] <;> rfl) | (simp only [← E0]; first | rfl | (simp [errW_none, errW_some] <;> rfl)) | (simp [*, errW_none, errW_some] <;> rfl), by exact zb0 HB⟩

end Go.Proofs.Ytapdifpmijgkcaa.G
