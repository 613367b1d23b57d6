/- Contracts of functions of the program, each as it is called: what it computes (.f), that it computes no less with more rounds (.mono), and that a call returns just that (.calls). No conditions but those that each contract names. Written by a program of this session (wip/gx.py over the kit's print). -/
import Derived.Test.YtnfbabmceddciaaG0
namespace Go.Proofs.Ytnfbabmceddciaa.G
open Go.RowKit Go.Proofs.YtnfbabmceddciaaW.PrintWords Go.Proofs.YtnfbabmceddciaaW.PrintLast Go.Proofs.YtnfbabmceddciaaW.PrintMore
attribute [local go_sem] max2_int min2_int max_two min_two max_three min_three max_four min_four max_five min_five   -- for this text's walks alone
set_option linter.unusedVariables false
set_option linter.unusedSimpArgs false


attribute [local go_sem high] eqA48
/-! ### imageeditorlaw15_same: function 21 -/
mutual
def imageeditorlaw15_same.j0 : Nat → Bool → Int → Int → List (S48) → Int → Int → List (S48) → Option (Bool)
 | 0, _, _, _, _, _, _, _ => none
 | k + 1, x26, G5, G6, E2, G7, G8, E3 => if x26 = true then (some false) else (imageeditorlaw15_same.l0 k (E2.length : Int) 0 G5 G6 E2 G7 G8 E3)
def imageeditorlaw15_same.l0 : Nat → Int → Int → Int → Int → List (S48) → Int → Int → List (S48) → Option (Bool)
 | 0, _, _, _, _, _, _, _, _ => none
 | k + 1, x29, x30, G5, G6, E2, G7, G8, E3 => if x30 < x29 then (if 0 ≤ x30 then (if x30 < (E2.length : Int) then (if x30 < (E3.length : Int) then (if (!(((rd_T48 E2 x30).f0) == ((rd_T48 E3 x30).f0)) || (!(((rd_T48 E2 x30).f1) == ((rd_T48 E3 x30).f1)) || (!(((rd_T48 E2 x30).f2) == ((rd_T48 E3 x30).f2)) || (!(((rd_T48 E2 x30).f3) == ((rd_T48 E3 x30).f3)))))) = true then (some false) else (imageeditorlaw15_same.l0 k x29 (wrap64 (x30 + 1)) G5 G6 E2 G7 G8 E3)) else (none)) else (none)) else (none)) else (some true)
end
def imageeditorlaw15_same.f (k : Nat) (a0_0 : Int) (a0_1 : Int) (l0_2 : List (S48)) (a1_0 : Int) (a1_1 : Int) (l1_2 : List (S48)) : Option (Bool) := if a0_0 = a1_0 then (if a0_1 = a1_1 then (imageeditorlaw15_same.j0 k ((l0_2.length : Int) != (l1_2.length : Int)) a0_0 a0_1 l0_2 a1_0 a1_1 l1_2) else (imageeditorlaw15_same.j0 k true a0_0 a0_1 l0_2 a1_0 a1_1 l1_2)) else (imageeditorlaw15_same.j0 k true a0_0 a0_1 l0_2 a1_0 a1_1 l1_2)
theorem imageeditorlaw15_same.mono_l : ∀ k, (∀ y0 y1 y2 y3 y4 y5 y6, LeO (imageeditorlaw15_same.j0 k y0 y1 y2 y3 y4 y5 y6) (imageeditorlaw15_same.j0 (k + 1) y0 y1 y2 y3 y4 y5 y6)) ∧ (∀ y0 y1 y2 y3 y4 y5 y6 y7, LeO (imageeditorlaw15_same.l0 k y0 y1 y2 y3 y4 y5 y6 y7) (imageeditorlaw15_same.l0 (k + 1) y0 y1 y2 y3 y4 y5 y6 y7))
 | 0 => ⟨fun _ _ _ _ _ _ _ r h => by simp [imageeditorlaw15_same.j0] at h, fun _ _ _ _ _ _ _ _ r h => by simp [imageeditorlaw15_same.l0] at h⟩
 | k + 1 => by
  obtain ⟨ih0, ih1⟩ := imageeditorlaw15_same.mono_l k
  refine ⟨?_, ?_⟩
  ·intro y0 y1 y2 y3 y4 y5 y6
   unfold imageeditorlaw15_same.j0
   repeat' first
   | (with_reducible exact ih0 _ _ _ _ _ _ _)
   | (with_reducible exact ih1 _ _ _ _ _ _ _ _)
   | (with_reducible exact LeO.refl _)
   | (with_reducible exact LeO.none _)
   | (with_reducible refine LeO.ite ?_ ?_)
   | (with_reducible refine LeO.bind ?_ (fun _ => ?_))
   | exact ih0 _ _ _ _ _ _ _
   | exact ih1 _ _ _ _ _ _ _ _
   | exact LeO.none _
   | refine LeO.ite ?_ ?_
   | refine LeO.bind ?_ (fun _ => ?_)
  ·intro y0 y1 y2 y3 y4 y5 y6 y7
   unfold imageeditorlaw15_same.l0
   repeat' first
   | (with_reducible exact ih0 _ _ _ _ _ _ _)
   | (with_reducible exact ih1 _ _ _ _ _ _ _ _)
   | (with_reducible exact LeO.refl _)
   | (with_reducible exact LeO.none _)
   | (with_reducible refine LeO.ite ?_ ?_)
   | (with_reducible refine LeO.bind ?_ (fun _ => ?_))
   | exact ih0 _ _ _ _ _ _ _
   | exact ih1 _ _ _ _ _ _ _ _
   | exact LeO.none _
   | refine LeO.ite ?_ ?_
   | refine LeO.bind ?_ (fun _ => ?_)
theorem imageeditorlaw15_same.mono : ∀ a0 a1 a2 a3 a4 a5 k, LeO (imageeditorlaw15_same.f k a0 a1 a2 a3 a4 a5) (imageeditorlaw15_same.f (k + 1) a0 a1 a2 a3 a4 a5) := by
 intro a0 a1 a2 a3 a4 a5 k
 obtain ⟨ih0, ih1⟩ := imageeditorlaw15_same.mono_l k
 unfold imageeditorlaw15_same.f
 repeat' first
   | (with_reducible exact ih0 _ _ _ _ _ _ _)
   | (with_reducible exact ih1 _ _ _ _ _ _ _ _)
   | (with_reducible exact LeO.refl _)
   | (with_reducible exact LeO.none _)
   | (with_reducible refine LeO.ite ?_ ?_)
   | (with_reducible refine LeO.bind ?_ (fun _ => ?_))
   | exact ih0 _ _ _ _ _ _ _
   | exact ih1 _ _ _ _ _ _ _ _
   | exact LeO.none _
   | refine LeO.ite ?_ ?_
   | refine LeO.bind ?_ (fun _ => ?_)
set_option maxHeartbeats 8000000 in
set_option maxRecDepth 100000 in
theorem imageeditorlaw15_same.calls (k : Nat) (a0_0 : Int) (a0_1 : Int) (A0_2 : Option Addr) (c0_2 : Nat) (l0_2 : List (S48)) (a1_0 : Int) (a1_1 : Int) (A1_2 : Option Addr) (c1_2 : Nat) (l1_2 : List (S48)) (r : Bool) (w : World) (hr0_2 : Kd.C k48 w A0_2 l0_2.length l0_2) (hc0_2 : l0_2.length ≤ c0_2) (hr1_2 : Kd.C k48 w A1_2 l1_2.length l1_2) (hc1_2 : l1_2.length ≤ c1_2) (h : imageeditorlaw15_same.f k a0_0 a0_1 l0_2 a1_0 a1_1 l1_2 = some r) :
  Calls Try.prog 21 #[.agg #[.int .i64 a0_0, .int .i64 a0_1, .slice A0_2 l0_2.length c0_2], .agg #[.int .i64 a1_0, .int .i64 a1_1, .slice A1_2 l1_2.length c1_2]] w fun e w' => e = .returned (.bool r) ∧ Below w.heap.size w w' := by
 have hu40 := Try.underlying40
 have hu48 := Try.underlying48
 have V2 := Aside0.mk hr0_2
 have Q6 := Aside0.mk hc0_2
 clear hr0_2 hc0_2
 have V3 := Aside0.mk hr1_2
 have Q7 := Aside0.mk hc1_2
 clear hr1_2 hc1_2
 have HB := Aside0.mk (Below.refl w.heap.size w)
 have H : (if a0_0 = a1_0 then (if a0_1 = a1_1 then (imageeditorlaw15_same.j0 k ((l0_2.length : Int) != (l1_2.length : Int)) a0_0 a0_1 l0_2 a1_0 a1_1 l1_2) else (imageeditorlaw15_same.j0 k true a0_0 a0_1 l0_2 a1_0 a1_1 l1_2)) else (imageeditorlaw15_same.j0 k true a0_0 a0_1 l0_2 a1_0 a1_1 l1_2)) = some r := h
 clear h
 have HC3 := Aside0.mk H
 clear H
 go_enter Try.func21, Try.ntmps21
 go_upto_region 1 with (first | ((with_reducible refine gate_dst (N := 2) rfl ?_); (try (refine gate_guard (by rfl) ?_; dsimp only)); refine box_event ?hg (N := 2) ?hd (cs := #[.int .i64 a0_0, .int .i64 a0_1, .slice A0_2 l0_2.length c0_2]) (t := 40) ?hr ?_; (case hd => rfl); (case hg => rfl); (case hr => first | (go_simp; done) | (go_simp; rfl)); intro G3 hg w4 hbox hb; have V4 := zg HB hg; have V5 := zg HB hg; have n0_ := Aside0.mk (hbox); replace HB := zb HB hb; have E0 := n0_; clear n0_; clear hb hbox hg) | ((with_reducible refine gate_dst (N := 3) rfl ?_); (try (refine gate_guard (by rfl) ?_; dsimp only)); refine box_event ?hg (N := 3) ?hd (cs := #[.int .i64 a1_0, .int .i64 a1_1, .slice A1_2 l1_2.length c1_2]) (t := 40) ?hr ?_; (case hd => rfl); (case hg => rfl); (case hr => first | (go_simp; done) | (go_simp; rfl)); intro G4 hg w5 hbox hb; have V6 := zg HB hg; have V7 := zg HB hg; have V8 := zn E0 hg; have V9 := zn' E0 hg; have n0_ := Aside0.mk (hbox); replace E0 := zk E0 hb; replace HB := zb HB hb; have E1 := n0_; clear n0_; clear hb hbox hg))
 repeat (go_quiet (first | ((with_reducible refine gate_dst (N := 2) rfl ?_); (try (refine gate_guard (by rfl) ?_; dsimp only)); refine box_event ?hg (N := 2) ?hd (cs := #[.int .i64 a0_0, .int .i64 a0_1, .slice A0_2 l0_2.length c0_2]) (t := 40) ?hr ?_; (case hd => rfl); (case hg => rfl); (case hr => first | (go_simp; done) | (go_simp; rfl)); intro G3 hg w4 hbox hb; have V4 := zg HB hg; have V5 := zg HB hg; have n0_ := Aside0.mk (hbox); replace HB := zb HB hb; have E0 := n0_; clear n0_; clear hb hbox hg) | ((with_reducible refine gate_dst (N := 3) rfl ?_); (try (refine gate_guard (by rfl) ?_; dsimp only)); refine box_event ?hg (N := 3) ?hd (cs := #[.int .i64 a1_0, .int .i64 a1_1, .slice A1_2 l1_2.length c1_2]) (t := 40) ?hr ?_; (case hd => rfl); (case hg => rfl); (case hr => first | (go_simp; done) | (go_simp; rfl)); intro G4 hg w5 hbox hb; have V6 := zg HB hg; have V7 := zg HB hg; have V8 := zn E0 hg; have V9 := zn' E0 hg; have n0_ := Aside0.mk (hbox); replace E0 := zk E0 hb; replace HB := zb HB hb; have E1 := n0_; clear n0_; clear hb hbox hg)); go_upto_region 1 with (first | ((with_reducible refine gate_dst (N := 2) rfl ?_); (try (refine gate_guard (by rfl) ?_; dsimp only)); refine box_event ?hg (N := 2) ?hd (cs := #[.int .i64 a0_0, .int .i64 a0_1, .slice A0_2 l0_2.length c0_2]) (t := 40) ?hr ?_; (case hd => rfl); (case hg => rfl); (case hr => first | (go_simp; done) | (go_simp; rfl)); intro G3 hg w4 hbox hb; have V4 := zg HB hg; have V5 := zg HB hg; have n0_ := Aside0.mk (hbox); replace HB := zb HB hb; have E0 := n0_; clear n0_; clear hb hbox hg) | ((with_reducible refine gate_dst (N := 3) rfl ?_); (try (refine gate_guard (by rfl) ?_; dsimp only)); refine box_event ?hg (N := 3) ?hd (cs := #[.int .i64 a1_0, .int .i64 a1_1, .slice A1_2 l1_2.length c1_2]) (t := 40) ?hr ?_; (case hd => rfl); (case hg => rfl); (case hr => first | (go_simp; done) | (go_simp; rfl)); intro G4 hg w5 hbox hb; have V6 := zg HB hg; have V7 := zg HB hg; have V8 := zn E0 hg; have V9 := zn' E0 hg; have n0_ := Aside0.mk (hbox); replace E0 := zk E0 hb; replace HB := zb HB hb; have E1 := n0_; clear n0_; clear hb hbox hg)))
 (try simp only [Act.put, sA, sB, sC])
 go_cut [26] (fun v26 wc => ∃ (kq : Nat) (x26_2 : Bool), v26 = .bool x26_2 ∧ Aside0 (imageeditorlaw15_same.j0 kq x26_2 a0_0 a0_1 l0_2 a1_0 a1_1 l1_2 = some r) ∧ Aside0 (kq ≤ k) ∧ Aside0 (wc.heap[G3]? = some (.cells #[.int .i64 a0_0, .int .i64 a0_1, (.slice A0_2 l0_2.length c0_2)] 40 (0, 0))) ∧ Aside0 (wc.heap[G4]? = some (.cells #[.int .i64 a1_0, .int .i64 a1_1, (.slice A1_2 l1_2.length c1_2)] 40 (0, 0))) ∧ Aside0 (Below w.heap.size w wc))
 case first =>
  have H := HC3.out
  clear HC3
  by_cases c6 : a0_0 = a1_0
  rotate_left
  ·rw [if_neg c6] at H
   have E4 : (a0_0 == a1_0) = false := beq_eq_false_iff_ne.mpr c6
   have G9 : (a0_0 != a1_0) = true := bne_iff_ne.mpr c6
   (first | rw [E4] | (simp only [i64_w, i32_w]; rw [E4]) | skip)
   have H' := Aside0.mk H
   clear H
   obtain ⟨Y0, Y1, Y2, Y3, Y4, Y5⟩ := zq3 E0
   obtain ⟨Y6, Y7, Y8, Y9, Z0, Z1⟩ := zq3 E1
   go_wp2
   repeat (go_quiet (fail); try go_wp2)
   go_meet
   case rel => exact ⟨_, (true), (by first | rfl | (simp; done) | (simp [*]; done)), H', ⟨by first | omega | exact Nat.le_refl _⟩, ⟨by exact zk0 E0⟩, ⟨by exact zk0 E1⟩, ⟨by exact zb0 HB⟩⟩
  rw [if_pos c6] at H
  have E4 : (a0_0 == a1_0) = true := beq_iff_eq.mpr c6
  have G9 : (a0_0 != a1_0) = false := bne_eq_false_iff_eq.mpr c6
  clear c6
  (first | rw [E4] | (simp only [i64_w, i32_w]; rw [E4]) | skip)
  by_cases c7 : a0_1 = a1_1
  ·rw [if_pos c7] at H
   have V0 : (a0_1 == a1_1) = true := beq_iff_eq.mpr c7
   have V1 : (a0_1 != a1_1) = false := bne_eq_false_iff_eq.mpr c7
   clear c7
   have H' := Aside0.mk H
   clear H
   obtain ⟨Z2, Z3, Z4, Z5, Z6, Z7⟩ := zq3 E0
   obtain ⟨Z8, Z9, J0, J1, J2, J3⟩ := zq3 E1
   go_wp2
   repeat (go_quiet (fail); try go_wp2)
   go_meet
   case rel => exact ⟨_, (((l0_2.length : Int) != (l1_2.length : Int))), (by first | rfl | (simp; done) | (simp [*]; done)), H', ⟨by first | omega | exact Nat.le_refl _⟩, ⟨by exact zk0 E0⟩, ⟨by exact zk0 E1⟩, ⟨by exact zb0 HB⟩⟩
  rw [if_neg c7] at H
  have V0 : (a0_1 == a1_1) = false := beq_eq_false_iff_ne.mpr c7
  have V1 : (a0_1 != a1_1) = true := bne_iff_ne.mpr c7
  have H' := Aside0.mk H
  clear H
  obtain ⟨J4, J5, J6, J7, J8, J9⟩ := zq3 E0
  obtain ⟨L0, L1, L2, L3, L4, L5⟩ := zq3 E1
  go_wp2
  repeat (go_quiet (fail); try go_wp2)
  go_meet
  case rel => exact ⟨_, (true), (by first | rfl | (simp; done) | (simp [*]; done)), H', ⟨by first | omega | exact Nat.le_refl _⟩, ⟨by exact zk0 E0⟩, ⟨by exact zk0 E1⟩, ⟨by exact zb0 HB⟩⟩
 case rest =>
  clear HC3
  try clear c1
  try clear c2
  try clear p2
  try clear q3
  try clear c6
  try clear E4
  try clear G9
  try clear c7
  try clear V0
  try clear V1
  try clear J4
  try clear J5
  try clear J6
  try clear L0
  try clear L1
  try clear L2
  try clear Y0
  try clear Y1
  try clear Y2
  try clear Y6
  try clear Y7
  try clear Y8
  try clear Z2
  try clear Z3
  try clear Z4
  try clear Z8
  try clear Z9
  try clear J0
  try clear J7
  try clear J8
  try clear J9
  try clear L3
  try clear L4
  try clear L5
  try clear Y3
  try clear Y4
  try clear Y5
  try clear Y9
  try clear Z0
  try clear Z1
  try clear Z5
  try clear Z6
  try clear Z7
  try clear J1
  try clear J2
  try clear J3
  obtain ⟨kq, x26_2, rfl, HA, HJ2, E0, E1, HB⟩ := hcut
  cases kq with
  | zero => exact absurd HA.out (by simp [imageeditorlaw15_same.j0])
  | succ kj2 =>
   have H := HA.out
   clear HA
   simp only [imageeditorlaw15_same.j0] at H
   by_cases c14 : x26_2 = true
   ·subst c14
    rw [if_pos rfl] at H
    obtain rfl := Option.some.inj H
    go_wp2
    repeat (go_quiet (fail); try go_wp2)
    go_ret
    exact ⟨by first | rfl | (simp [errW_none, errW_some] <;> rfl) | (simp [*, errW_none, errW_some] <;> rfl), by exact zb0 HB⟩
   replace c14 := Bool.eq_false_iff.mpr c14
   subst c14
   rw [if_neg (show ¬ (false = true) by decide)] at H
   have H' := Aside0.mk H
   clear H
   obtain ⟨L6, L7, L8, L9, Q0, Q1⟩ := zq3 E0
   go_wp2
   repeat (go_quiet (fail); try go_wp2)
   go_loopg [30] kj2 (fun kq v30 w' => ∃ (x30_2 : Int), v30 = .int .i64 x30_2 ∧ Aside0 (imageeditorlaw15_same.l0 kq (l0_2.length : Int) x30_2 a0_0 a0_1 l0_2 a1_0 a1_1 l1_2 = some r) ∧ Aside0 (kq ≤ kj2) ∧ Aside0 (w'.heap[G3]? = some (.cells #[.int .i64 a0_0, .int .i64 a0_1, (.slice A0_2 l0_2.length c0_2)] 40 (0, 0))) ∧ Aside0 (w'.heap[G4]? = some (.cells #[.int .i64 a1_0, .int .i64 a1_1, (.slice A1_2 l1_2.length c1_2)] 40 (0, 0))) ∧ Aside0 (Below w.heap.size w w'))
   case atStart => exact ⟨(0), (by first | rfl | (simp; done) | (simp [*]; done)), H', ⟨Nat.le_refl _⟩, ⟨by exact zk0 E0⟩, ⟨by exact zk0 E1⟩, ⟨by exact zb0 HB⟩⟩
   case round =>
    clear H'
    try clear c1
    try clear c2
    try clear p2
    try clear q3
    try clear c6
    try clear E4
    try clear G9
    try clear c7
    try clear V0
    try clear V1
    try clear c14
    try clear J4
    try clear J5
    try clear J6
    try clear L0
    try clear L1
    try clear L2
    try clear Y0
    try clear Y1
    try clear Y2
    try clear Y6
    try clear Y7
    try clear Y8
    try clear L6
    try clear L7
    try clear L8
    try clear Z2
    try clear Z3
    try clear Z4
    try clear Z8
    try clear Z9
    try clear J0
    try clear J7
    try clear J8
    try clear J9
    try clear L3
    try clear L4
    try clear L5
    try clear Y3
    try clear Y4
    try clear Y5
    try clear Y9
    try clear Z0
    try clear Z1
    try clear L9
    try clear Q0
    try clear Q1
    try clear Z5
    try clear Z6
    try clear Z7
    try clear J1
    try clear J2
    try clear J3
    try clear p2
    try clear q3
    obtain ⟨x30_2, rfl, HA, HK2, E0, E1, HB⟩ := hrel
    cases gk with
    | zero => exact absurd HA.out (by simp [imageeditorlaw15_same.l0])
    | succ k2 =>
     have H := HA.out
     clear HA
     simp only [imageeditorlaw15_same.l0] at H
     by_cases c16 : x30_2 < (l0_2.length : Int)
     rotate_left
     ·rw [if_neg c16] at H
      have Q2 : decide (x30_2 < (l0_2.length : Int)) = false := decide_eq_false c16
      clear c16
      obtain rfl := Option.some.inj H
      go_wp2
      repeat (go_quiet (fail); try go_wp2)
      go_ret
      exact ⟨by first | rfl | (simp [errW_none, errW_some] <;> rfl) | (simp [*, errW_none, errW_some] <;> rfl), by exact zb0 HB⟩

     rw [if_pos c16] at H
     have Q2 : decide (x30_2 < (l0_2.length : Int)) = true := decide_eq_true c16
     clear c16
     by_cases c17 : 0 ≤ x30_2
     rotate_left
     ·rw [if_neg c17] at H
      exact absurd H (by simp)
     rw [if_pos c17] at H
     have Q8 : decide (0 ≤ x30_2) = true := decide_eq_true c17
     clear c17
     by_cases c18 : x30_2 < (l0_2.length : Int)
     rotate_left
     ·rw [if_neg c18] at H
      exact absurd H (by simp)
     rw [if_pos c18] at H
     have Q9 : decide (x30_2 < (l0_2.length : Int)) = true := decide_eq_true c18
     clear c18
     by_cases c19 : x30_2 < (l1_2.length : Int)
     rotate_left
     ·rw [if_neg c19] at H
      exact absurd H (by simp)
     rw [if_pos c19] at H
     have E0a : decide (x30_2 < (l1_2.length : Int)) = true := decide_eq_true c19
     clear c19
     by_cases c20 : (!(((rd_T48 l0_2 x30_2).f0) == ((rd_T48 l1_2 x30_2).f0)) || (!(((rd_T48 l0_2 x30_2).f1) == ((rd_T48 l1_2 x30_2).f1)) || (!(((rd_T48 l0_2 x30_2).f2) == ((rd_T48 l1_2 x30_2).f2)) || (!(((rd_T48 l0_2 x30_2).f3) == ((rd_T48 l1_2 x30_2).f3)))))) = true
     ·rw [if_pos c20] at H
      have Q3 : (!(((rd_T48 l0_2 x30_2).f0) == ((rd_T48 l1_2 x30_2).f0)) || (!(((rd_T48 l0_2 x30_2).f1) == ((rd_T48 l1_2 x30_2).f1)) || (!(((rd_T48 l0_2 x30_2).f2) == ((rd_T48 l1_2 x30_2).f2)) || (!(((rd_T48 l0_2 x30_2).f3) == ((rd_T48 l1_2 x30_2).f3)))))) = true := c20
      clear c20
      obtain rfl := Option.some.inj H
      obtain ⟨E0b, E0c, E0d, E0e, E0f, E0g⟩ := zq3 E0
      have p709 : 0 ≤ (x30_2 : Int) := of_decide_eq_true (by first | (with_reducible assumption) | assumption)
      have q709 : x30_2 < (l0_2.length : Int) := of_decide_eq_true (by first | (with_reducible assumption) | assumption)
      obtain ⟨Q4, e709, E5, E6, E7, E8⟩ := at_T48 V2.out x30_2 p709 q709
      cases e709
      replace E5 := (HB.out.cell (World.block_lt_of_cell? w _ E5)).trans E5
      replace E6 := (HB.out.cell (World.block_lt_of_cell? w _ E6)).trans E6
      replace E7 := (HB.out.cell (World.block_lt_of_cell? w _ E7)).trans E7
      replace E8 := (HB.out.cell (World.block_lt_of_cell? w _ E8)).trans E8
      replace p709 := eq_true p709
      replace q709 := eq_true q709
      obtain ⟨E0h, E0i, E0j, E0k, E0l, E0m⟩ := zq3 E1
      have p710 : 0 ≤ (x30_2 : Int) := of_decide_eq_true (by first | (with_reducible assumption) | assumption)
      have q710 : x30_2 < (l1_2.length : Int) := of_decide_eq_true (by first | (with_reducible assumption) | assumption)
      obtain ⟨Q5, e710, E9, G0, G1, G2⟩ := at_T48 V3.out x30_2 p710 q710
      cases e710
      replace E9 := (HB.out.cell (World.block_lt_of_cell? w _ E9)).trans E9
      replace G0 := (HB.out.cell (World.block_lt_of_cell? w _ G0)).trans G0
      replace G1 := (HB.out.cell (World.block_lt_of_cell? w _ G1)).trans G1
      replace G2 := (HB.out.cell (World.block_lt_of_cell? w _ G2)).trans G2
      replace p710 := eq_true p710
      replace q710 := eq_true q710
      go_wp2
      repeat (go_quiet (fail); try go_wp2)
      go_ret
      exact ⟨by first | rfl | (simp [errW_none, errW_some] <;> rfl) | (simp [*, errW_none, errW_some] <;> rfl), by exact zb0 HB⟩
     rw [if_neg c20] at H
     have Q3 : (!(((rd_T48 l0_2 x30_2).f0) == ((rd_T48 l1_2 x30_2).f0)) || (!(((rd_T48 l0_2 x30_2).f1) == ((rd_T48 l1_2 x30_2).f1)) || (!(((rd_T48 l0_2 x30_2).f2) == ((rd_T48 l1_2 x30_2).f2)) || (!(((rd_T48 l0_2 x30_2).f3) == ((rd_T48 l1_2 x30_2).f3)))))) = false := by simpa using c20
     clear c20
     have H' := Aside0.mk H
     clear H
     obtain ⟨E0n, E0o, E0p, E0q, E0r, E0s⟩ := zq3 E0
     have p709 : 0 ≤ (x30_2 : Int) := of_decide_eq_true (by first | (with_reducible assumption) | assumption)
     have q709 : x30_2 < (l0_2.length : Int) := of_decide_eq_true (by first | (with_reducible assumption) | assumption)
     obtain ⟨Q4, e709, E5, E6, E7, E8⟩ := at_T48 V2.out x30_2 p709 q709
     cases e709
     replace E5 := (HB.out.cell (World.block_lt_of_cell? w _ E5)).trans E5
     replace E6 := (HB.out.cell (World.block_lt_of_cell? w _ E6)).trans E6
     replace E7 := (HB.out.cell (World.block_lt_of_cell? w _ E7)).trans E7
     replace E8 := (HB.out.cell (World.block_lt_of_cell? w _ E8)).trans E8
     replace p709 := eq_true p709
     replace q709 := eq_true q709
     obtain ⟨E0t, E0u, E0v, E0w, E0x, E0y⟩ := zq3 E1
     have p710 : 0 ≤ (x30_2 : Int) := of_decide_eq_true (by first | (with_reducible assumption) | assumption)
     have q710 : x30_2 < (l1_2.length : Int) := of_decide_eq_true (by first | (with_reducible assumption) | assumption)
     obtain ⟨Q5, e710, E9, G0, G1, G2⟩ := at_T48 V3.out x30_2 p710 q710
     cases e710
     replace E9 := (HB.out.cell (World.block_lt_of_cell? w _ E9)).trans E9
     replace G0 := (HB.out.cell (World.block_lt_of_cell? w _ G0)).trans G0
     replace G1 := (HB.out.cell (World.block_lt_of_cell? w _ G1)).trans G1
     replace G2 := (HB.out.cell (World.block_lt_of_cell? w _ G2)).trans G2
     replace p710 := eq_true p710
     replace q710 := eq_true q710
     go_wp2
     repeat (go_quiet (fail); try go_wp2)
     go_roundg k2
     case measure => have := HJ2.out; have := HK2.out; omega
     case rel => exact ⟨(wrap64 (x30_2 + 1)), (by first | rfl | (simp; done) | (simp [*]; done)), H', ⟨by have := HJ2.out; have := HK2.out; omega⟩, ⟨by exact zk0 E0⟩, ⟨by exact zk0 E1⟩, ⟨by exact zb0 HB⟩⟩
end Go.Proofs.Ytnfbabmceddciaa.G
