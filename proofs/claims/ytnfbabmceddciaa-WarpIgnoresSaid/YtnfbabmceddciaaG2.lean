/- Contracts of functions of the program, each as it is called: what it computes (.f), that it computes no less with more rounds (.mono), and that a call returns just that (.calls). No conditions but those that each contract names. Written by a program of this session (wip/gx.py over the kit's print). -/
import Derived.Test.YtnfbabmceddciaaG0
namespace Go.Proofs.Ytnfbabmceddciaa.G
open Go.RowKit Go.Proofs.YtnfbabmceddciaaW.PrintWords Go.Proofs.YtnfbabmceddciaaW.PrintLast Go.Proofs.YtnfbabmceddciaaW.PrintMore
attribute [local go_sem] max2_int min2_int max_two min_two max_three min_three max_four min_four max_five min_five   -- for this text's walks alone
set_option linter.unusedVariables false
set_option linter.unusedSimpArgs false


/-! ### imageeditorref15_Check: function 11 -/
mutual
def imageeditorref15_Check.j0 : Nat → Bool → Int → Int → Int → List (S28) → Option (Int)
 | 0, _, _, _, _, _ => none
 | k + 1, x42, G5, G6, G7, E9 => if x42 = true then (some 15) else (imageeditorref15_Check.l0 k (E9.length : Int) 0 G5 G6 G7 E9)
def imageeditorref15_Check.l0 : Nat → Int → Int → Int → Int → Int → List (S28) → Option (Int)
 | 0, _, _, _, _, _, _ => none
 | k + 1, x45, x46, G5, G6, G7, E9 => if x46 < x45 then (if 0 ≤ x46 then (if x46 < (E9.length : Int) then (if ((rd_T28 E9 x46).f0) < (-1048576) then (some 2) else (if ((rd_T28 E9 x46).f0) > 1048576 then (some 2) else (if ((rd_T28 E9 x46).f1) < (-1048576) then (some 2) else (if ((rd_T28 E9 x46).f1) > 1048576 then (some 2) else (imageeditorref15_Check.l0 k x45 (wrap64 (x46 + 1)) G5 G6 G7 E9))))) else (none)) else (none)) else (some 0)
end
def imageeditorref15_Check.f (k : Nat) (a0_0 : Int) (a0_1 : Int) (a0_2 : Int) (l0_3 : List (S28)) : Option (Int) := if a0_0 < 2 then (imageeditorref15_Check.j0 k true a0_0 a0_1 a0_2 l0_3) else (if a0_0 > 8 then (imageeditorref15_Check.j0 k true a0_0 a0_1 a0_2 l0_3) else (if a0_1 < 2 then (imageeditorref15_Check.j0 k true a0_0 a0_1 a0_2 l0_3) else (if a0_1 > 8 then (imageeditorref15_Check.j0 k true a0_0 a0_1 a0_2 l0_3) else (if a0_2 < 1 then (imageeditorref15_Check.j0 k true a0_0 a0_1 a0_2 l0_3) else (if a0_2 > 256 then (imageeditorref15_Check.j0 k true a0_0 a0_1 a0_2 l0_3) else (imageeditorref15_Check.j0 k ((l0_3.length : Int) != (wrap64 (a0_0 * a0_1))) a0_0 a0_1 a0_2 l0_3))))))
theorem imageeditorref15_Check.mono_l : ∀ k, (∀ y0 y1 y2 y3 y4, LeO (imageeditorref15_Check.j0 k y0 y1 y2 y3 y4) (imageeditorref15_Check.j0 (k + 1) y0 y1 y2 y3 y4)) ∧ (∀ y0 y1 y2 y3 y4 y5, LeO (imageeditorref15_Check.l0 k y0 y1 y2 y3 y4 y5) (imageeditorref15_Check.l0 (k + 1) y0 y1 y2 y3 y4 y5))
 | 0 => ⟨fun _ _ _ _ _ r h => by simp [imageeditorref15_Check.j0] at h, fun _ _ _ _ _ _ r h => by simp [imageeditorref15_Check.l0] at h⟩
 | k + 1 => by
  obtain ⟨ih0, ih1⟩ := imageeditorref15_Check.mono_l k
  refine ⟨?_, ?_⟩
  ·intro y0 y1 y2 y3 y4
   unfold imageeditorref15_Check.j0
   repeat' first
   | (with_reducible exact ih0 _ _ _ _ _)
   | (with_reducible exact ih1 _ _ _ _ _ _)
   | (with_reducible exact LeO.refl _)
   | (with_reducible exact LeO.none _)
   | (with_reducible refine LeO.ite ?_ ?_)
   | (with_reducible refine LeO.bind ?_ (fun _ => ?_))
   | exact ih0 _ _ _ _ _
   | exact ih1 _ _ _ _ _ _
   | exact LeO.none _
   | refine LeO.ite ?_ ?_
   | refine LeO.bind ?_ (fun _ => ?_)
  ·intro y0 y1 y2 y3 y4 y5
   unfold imageeditorref15_Check.l0
   repeat' first
   | (with_reducible exact ih0 _ _ _ _ _)
   | (with_reducible exact ih1 _ _ _ _ _ _)
   | (with_reducible exact LeO.refl _)
   | (with_reducible exact LeO.none _)
   | (with_reducible refine LeO.ite ?_ ?_)
   | (with_reducible refine LeO.bind ?_ (fun _ => ?_))
   | exact ih0 _ _ _ _ _
   | exact ih1 _ _ _ _ _ _
   | exact LeO.none _
   | refine LeO.ite ?_ ?_
   | refine LeO.bind ?_ (fun _ => ?_)
theorem imageeditorref15_Check.mono : ∀ a0 a1 a2 a3 k, LeO (imageeditorref15_Check.f k a0 a1 a2 a3) (imageeditorref15_Check.f (k + 1) a0 a1 a2 a3) := by
 intro a0 a1 a2 a3 k
 obtain ⟨ih0, ih1⟩ := imageeditorref15_Check.mono_l k
 unfold imageeditorref15_Check.f
 repeat' first
   | (with_reducible exact ih0 _ _ _ _ _)
   | (with_reducible exact ih1 _ _ _ _ _ _)
   | (with_reducible exact LeO.refl _)
   | (with_reducible exact LeO.none _)
   | (with_reducible refine LeO.ite ?_ ?_)
   | (with_reducible refine LeO.bind ?_ (fun _ => ?_))
   | exact ih0 _ _ _ _ _
   | exact ih1 _ _ _ _ _ _
   | exact LeO.none _
   | refine LeO.ite ?_ ?_
   | refine LeO.bind ?_ (fun _ => ?_)
set_option maxHeartbeats 8000000 in
set_option maxRecDepth 100000 in
theorem imageeditorref15_Check.calls (k : Nat) (a0_0 : Int) (a0_1 : Int) (a0_2 : Int) (A0_3 : Option Addr) (c0_3 : Nat) (l0_3 : List (S28)) (r : Int) (w : World) (hr0_3 : Kd.C k28 w A0_3 l0_3.length l0_3) (hc0_3 : l0_3.length ≤ c0_3) (h : imageeditorref15_Check.f k a0_0 a0_1 a0_2 l0_3 = some r) :
  Calls Try.prog 11 #[.agg #[.int .i64 a0_0, .int .i64 a0_1, .int .i64 a0_2, .slice A0_3 l0_3.length c0_3]] w fun e w' => e = .returned (.int .i64 r) ∧ Below w.heap.size w w' := by
 have hu24 := Try.underlying24
 have E5 := Aside0.mk hr0_3
 have E0o := Aside0.mk hc0_3
 clear hr0_3 hc0_3
 have HB := Aside0.mk (Below.refl w.heap.size w)
 have H : (if a0_0 < 2 then (imageeditorref15_Check.j0 k true a0_0 a0_1 a0_2 l0_3) else (if a0_0 > 8 then (imageeditorref15_Check.j0 k true a0_0 a0_1 a0_2 l0_3) else (if a0_1 < 2 then (imageeditorref15_Check.j0 k true a0_0 a0_1 a0_2 l0_3) else (if a0_1 > 8 then (imageeditorref15_Check.j0 k true a0_0 a0_1 a0_2 l0_3) else (if a0_2 < 1 then (imageeditorref15_Check.j0 k true a0_0 a0_1 a0_2 l0_3) else (if a0_2 > 256 then (imageeditorref15_Check.j0 k true a0_0 a0_1 a0_2 l0_3) else (imageeditorref15_Check.j0 k ((l0_3.length : Int) != (wrap64 (a0_0 * a0_1))) a0_0 a0_1 a0_2 l0_3))))))) = some r := h
 clear h
 have HC2 := Aside0.mk H
 clear H
 go_enter Try.func11, Try.ntmps11
 go_upto_region 1 with (first | ((with_reducible refine gate_dst (N := 1) rfl ?_); (try (refine gate_guard (by rfl) ?_; dsimp only)); refine box_event ?hg (N := 1) ?hd (cs := #[.int .i64 a0_0, .int .i64 a0_1, .int .i64 a0_2, .slice A0_3 l0_3.length c0_3]) (t := 24) ?hr ?_; (case hd => rfl); (case hg => rfl); (case hr => first | (go_simp; done) | (go_simp; rfl)); intro V4 hg w3 hbox hb; have E0p := zg HB hg; have E0q := zg HB hg; have n0_ := Aside0.mk (hbox); replace HB := zb HB hb; have E0 := n0_; clear n0_; clear hb hbox hg))
 (try simp only [Act.put, sA, sB, sC])
 go_cut [42] (fun v42 wc => ∃ (kq : Nat) (x42_1 : Bool), v42 = .bool x42_1 ∧ Aside0 (imageeditorref15_Check.j0 kq x42_1 a0_0 a0_1 a0_2 l0_3 = some r) ∧ Aside0 (kq ≤ k) ∧ Aside0 (wc.heap[V4]? = some (.cells #[.int .i64 a0_0, .int .i64 a0_1, .int .i64 a0_2, (.slice A0_3 l0_3.length c0_3)] 24 (0, 0))) ∧ Aside0 (Below w.heap.size w wc))
 case first =>
  have H := HC2.out
  clear HC2
  by_cases c4 : a0_0 < 2
  ·rw [if_pos c4] at H
   have G0 : decide (a0_0 < 2) = true := decide_eq_true c4
   clear c4
   (first | rw [G0] | (simp only [i64_w, i32_w]; rw [G0]) | skip)
   have H' := Aside0.mk H
   clear H
   obtain ⟨V5, V6, V7, V8, V9, Y0, Y1, Y2⟩ := zq4 E0
   go_wp2
   go_meet
   case rel => exact ⟨_, (true), (by first | rfl | (simp; done) | (simp [*]; done)), H', ⟨by first | omega | exact Nat.le_refl _⟩, ⟨by exact zk0 E0⟩, ⟨by exact zb0 HB⟩⟩
  rw [if_neg c4] at H
  have G0 : decide (a0_0 < 2) = false := decide_eq_false c4
  clear c4
  (first | rw [G0] | (simp only [i64_w, i32_w]; rw [G0]) | skip)
  by_cases c6 : a0_0 > 8
  ·rw [if_pos c6] at H
   have G8 : decide (8 < a0_0) = true := decide_eq_true c6
   clear c6
   have H' := Aside0.mk H
   clear H
   obtain ⟨Y3, Y4, Y5, Y6, Y7, Y8, Y9, Z0⟩ := zq4 E0
   go_wp2
   go_meet
   case rel => exact ⟨_, (true), (by first | rfl | (simp; done) | (simp [*]; done)), H', ⟨by first | omega | exact Nat.le_refl _⟩, ⟨by exact zk0 E0⟩, ⟨by exact zb0 HB⟩⟩
  rw [if_neg c6] at H
  have G8 : decide (8 < a0_0) = false := decide_eq_false c6
  clear c6
  by_cases c8 : a0_1 < 2
  ·rw [if_pos c8] at H
   have G9 : decide (a0_1 < 2) = true := decide_eq_true c8
   clear c8
   have H' := Aside0.mk H
   clear H
   obtain ⟨Z1, Z2, Z3, Z4, Z5, Z6, Z7, Z8⟩ := zq4 E0
   go_wp2
   go_meet
   case rel => exact ⟨_, (true), (by first | rfl | (simp; done) | (simp [*]; done)), H', ⟨by first | omega | exact Nat.le_refl _⟩, ⟨by exact zk0 E0⟩, ⟨by exact zb0 HB⟩⟩
  rw [if_neg c8] at H
  have G9 : decide (a0_1 < 2) = false := decide_eq_false c8
  clear c8
  by_cases c10 : a0_1 > 8
  ·rw [if_pos c10] at H
   have V0 : decide (8 < a0_1) = true := decide_eq_true c10
   clear c10
   have H' := Aside0.mk H
   clear H
   obtain ⟨Z9, J0, J1, J2, J3, J4, J5, J6⟩ := zq4 E0
   go_wp2
   go_meet
   case rel => exact ⟨_, (true), (by first | rfl | (simp; done) | (simp [*]; done)), H', ⟨by first | omega | exact Nat.le_refl _⟩, ⟨by exact zk0 E0⟩, ⟨by exact zb0 HB⟩⟩
  rw [if_neg c10] at H
  have V0 : decide (8 < a0_1) = false := decide_eq_false c10
  clear c10
  by_cases c12 : a0_2 < 1
  ·rw [if_pos c12] at H
   have V1 : decide (a0_2 < 1) = true := decide_eq_true c12
   clear c12
   have H' := Aside0.mk H
   clear H
   obtain ⟨J7, J8, J9, L0, L1, L2, L3, L4⟩ := zq4 E0
   go_wp2
   go_meet
   case rel => exact ⟨_, (true), (by first | rfl | (simp; done) | (simp [*]; done)), H', ⟨by first | omega | exact Nat.le_refl _⟩, ⟨by exact zk0 E0⟩, ⟨by exact zb0 HB⟩⟩
  rw [if_neg c12] at H
  have V1 : decide (a0_2 < 1) = false := decide_eq_false c12
  clear c12
  by_cases c14 : a0_2 > 256
  ·rw [if_pos c14] at H
   have V2 : decide (256 < a0_2) = true := decide_eq_true c14
   clear c14
   have H' := Aside0.mk H
   clear H
   obtain ⟨L5, L6, L7, L8, L9, Q0, Q1, Q2⟩ := zq4 E0
   go_wp2
   go_meet
   case rel => exact ⟨_, (true), (by first | rfl | (simp; done) | (simp [*]; done)), H', ⟨by first | omega | exact Nat.le_refl _⟩, ⟨by exact zk0 E0⟩, ⟨by exact zb0 HB⟩⟩
  rw [if_neg c14] at H
  have V2 : decide (256 < a0_2) = false := decide_eq_false c14
  clear c14
  have H' := Aside0.mk H
  clear H
  obtain ⟨Q3, Q4, Q5, Q6, Q7, Q8, Q9, E0a⟩ := zq4 E0
  go_wp2
  go_meet
  case rel => exact ⟨_, (((l0_3.length : Int) != (wrap64 (a0_0 * a0_1)))), (by first | rfl | (simp; done) | (simp [*]; done)), H', ⟨by first | omega | exact Nat.le_refl _⟩, ⟨by exact zk0 E0⟩, ⟨by exact zb0 HB⟩⟩
 case rest =>
  clear HC2
  try clear c1
  try clear p2
  try clear c4
  try clear G0
  try clear q4
  try clear c6
  try clear G8
  try clear p6
  try clear c8
  try clear G9
  try clear c10
  try clear V0
  try clear c11
  try clear c12
  try clear V1
  try clear c14
  try clear V2
  try clear Z9
  try clear J0
  try clear J1
  try clear J2
  try clear J7
  try clear J8
  try clear J9
  try clear L0
  try clear L5
  try clear L6
  try clear L7
  try clear L8
  try clear Q3
  try clear Q4
  try clear Q5
  try clear Q6
  try clear V5
  try clear V6
  try clear V7
  try clear V8
  try clear Y3
  try clear Y4
  try clear Y5
  try clear Y6
  try clear Z1
  try clear Z2
  try clear Z3
  try clear Z4
  try clear J3
  try clear J4
  try clear J5
  try clear J6
  try clear L1
  try clear L2
  try clear L3
  try clear L4
  try clear L9
  try clear Q0
  try clear Q1
  try clear Q2
  try clear Q7
  try clear Q8
  try clear Q9
  try clear E0a
  try clear V9
  try clear Y0
  try clear Y1
  try clear Y2
  try clear Y7
  try clear Y8
  try clear Y9
  try clear Z0
  try clear Z5
  try clear Z6
  try clear Z7
  try clear Z8
  obtain ⟨kq, x42_1, rfl, HA, HJ1, E0, HB⟩ := hcut
  cases kq with
  | zero => exact absurd HA.out (by simp [imageeditorref15_Check.j0])
  | succ kj1 =>
   have H := HA.out
   clear HA
   simp only [imageeditorref15_Check.j0] at H
   by_cases c17 : x42_1 = true
   ·subst c17
    rw [if_pos rfl] at H
    obtain rfl := Option.some.inj H
    go_wp2
    go_ret
    exact ⟨by first | rfl | (simp [errW_none, errW_some] <;> rfl) | (simp [*, errW_none, errW_some] <;> rfl), by exact zb0 HB⟩
   replace c17 := Bool.eq_false_iff.mpr c17
   subst c17
   rw [if_neg (show ¬ (false = true) by decide)] at H
   have H' := Aside0.mk H
   clear H
   obtain ⟨E0b, E0c, E0d, E0e, E0f, E0g, E0h, E0i⟩ := zq4 E0
   go_wp2
   go_loopg [46] kj1 (fun kq v46 w' => ∃ (x46_2 : Int), v46 = .int .i64 x46_2 ∧ Aside0 (imageeditorref15_Check.l0 kq (l0_3.length : Int) x46_2 a0_0 a0_1 a0_2 l0_3 = some r) ∧ Aside0 (kq ≤ kj1) ∧ Aside0 (w'.heap[V4]? = some (.cells #[.int .i64 a0_0, .int .i64 a0_1, .int .i64 a0_2, (.slice A0_3 l0_3.length c0_3)] 24 (0, 0))) ∧ Aside0 (Below w.heap.size w w'))
   case atStart => exact ⟨(0), (by first | rfl | (simp; done) | (simp [*]; done)), H', ⟨Nat.le_refl _⟩, ⟨by exact zk0 E0⟩, ⟨by exact zb0 HB⟩⟩
   case round =>
    clear H'
    try clear c1
    try clear p2
    try clear c4
    try clear G0
    try clear q4
    try clear c6
    try clear G8
    try clear p6
    try clear c8
    try clear G9
    try clear c10
    try clear V0
    try clear c11
    try clear c12
    try clear V1
    try clear c14
    try clear V2
    try clear c17
    try clear Z9
    try clear J0
    try clear J1
    try clear J2
    try clear J7
    try clear J8
    try clear J9
    try clear L0
    try clear L5
    try clear L6
    try clear L7
    try clear L8
    try clear Q3
    try clear Q4
    try clear Q5
    try clear Q6
    try clear E0b
    try clear E0c
    try clear E0d
    try clear E0e
    try clear V5
    try clear V6
    try clear V7
    try clear V8
    try clear Y3
    try clear Y4
    try clear Y5
    try clear Y6
    try clear Z1
    try clear Z2
    try clear Z3
    try clear Z4
    try clear J3
    try clear J4
    try clear J5
    try clear J6
    try clear L1
    try clear L2
    try clear L3
    try clear L4
    try clear L9
    try clear Q0
    try clear Q1
    try clear Q2
    try clear Q7
    try clear Q8
    try clear Q9
    try clear E0a
    try clear E0f
    try clear E0g
    try clear E0h
    try clear E0i
    try clear V9
    try clear Y0
    try clear Y1
    try clear Y2
    try clear Y7
    try clear Y8
    try clear Y9
    try clear Z0
    try clear Z5
    try clear Z6
    try clear Z7
    try clear Z8
    try clear p2
    try clear p6
    try clear q4
    obtain ⟨x46_2, rfl, HA, HK2, E0, HB⟩ := hrel
    cases gk with
    | zero => exact absurd HA.out (by simp [imageeditorref15_Check.l0])
    | succ k2 =>
     have H := HA.out
     clear HA
     simp only [imageeditorref15_Check.l0] at H
     by_cases c19 : x46_2 < (l0_3.length : Int)
     rotate_left
     ·rw [if_neg c19] at H
      have E0j : decide (x46_2 < (l0_3.length : Int)) = false := decide_eq_false c19
      clear c19
      obtain rfl := Option.some.inj H
      go_wp2
      go_ret
      exact ⟨by first | rfl | (simp [errW_none, errW_some] <;> rfl) | (simp [*, errW_none, errW_some] <;> rfl), by exact zb0 HB⟩

     rw [if_pos c19] at H
     have E0j : decide (x46_2 < (l0_3.length : Int)) = true := decide_eq_true c19
     clear c19
     by_cases c20 : 0 ≤ x46_2
     rotate_left
     ·rw [if_neg c20] at H
      exact absurd H (by simp)
     rw [if_pos c20] at H
     have E0r : decide (0 ≤ x46_2) = true := decide_eq_true c20
     clear c20
     by_cases c21 : x46_2 < (l0_3.length : Int)
     rotate_left
     ·rw [if_neg c21] at H
      exact absurd H (by simp)
     rw [if_pos c21] at H
     have E0s : decide (x46_2 < (l0_3.length : Int)) = true := decide_eq_true c21
     clear c21
     by_cases c22 : ((rd_T28 l0_3 x46_2).f0) < (-1048576)
     ·rw [if_pos c22] at H
      have E0k : decide (((rd_T28 l0_3 x46_2).f0) < (-1048576)) = true := decide_eq_true c22
      clear c22
      obtain rfl := Option.some.inj H
      obtain ⟨E0t, E0u, E0v, E0w, E0x, E0y, E0z, E0A⟩ := zq4 E0
      have p107 : 0 ≤ (x46_2 : Int) := of_decide_eq_true (by first | (with_reducible assumption) | assumption)
      have q107 : x46_2 < (l0_3.length : Int) := of_decide_eq_true (by first | (with_reducible assumption) | assumption)
      obtain ⟨E6, e107, E1, E2⟩ := at_T28 E5.out x46_2 p107 q107
      cases e107
      replace E1 := (HB.out.cell (World.block_lt_of_cell? w _ E1)).trans E1
      replace E2 := (HB.out.cell (World.block_lt_of_cell? w _ E2)).trans E2
      replace p107 := eq_true p107
      replace q107 := eq_true q107
      go_wp2
      go_ret
      exact ⟨by first | rfl | (simp [errW_none, errW_some] <;> rfl) | (simp [*, errW_none, errW_some] <;> rfl), by exact zb0 HB⟩
     rw [if_neg c22] at H
     have E0k : decide (((rd_T28 l0_3 x46_2).f0) < (-1048576)) = false := decide_eq_false c22
     clear c22
     by_cases c24 : ((rd_T28 l0_3 x46_2).f0) > 1048576
     ·rw [if_pos c24] at H
      have E0l : decide (1048576 < ((rd_T28 l0_3 x46_2).f0)) = true := decide_eq_true c24
      clear c24
      obtain rfl := Option.some.inj H
      obtain ⟨E0B, E0C, E0D, E0E, E0F, E0G, E0H, E0I⟩ := zq4 E0
      have p107 : 0 ≤ (x46_2 : Int) := of_decide_eq_true (by first | (with_reducible assumption) | assumption)
      have q107 : x46_2 < (l0_3.length : Int) := of_decide_eq_true (by first | (with_reducible assumption) | assumption)
      obtain ⟨E6, e107, E1, E2⟩ := at_T28 E5.out x46_2 p107 q107
      cases e107
      replace E1 := (HB.out.cell (World.block_lt_of_cell? w _ E1)).trans E1
      replace E2 := (HB.out.cell (World.block_lt_of_cell? w _ E2)).trans E2
      replace p107 := eq_true p107
      replace q107 := eq_true q107
      have p108 : 0 ≤ (x46_2 : Int) := of_decide_eq_true (by first | (with_reducible assumption) | assumption)
      have q108 : x46_2 < (l0_3.length : Int) := of_decide_eq_true (by first | (with_reducible assumption) | assumption)
      obtain ⟨G1, e108, E3, E4⟩ := at_T28 E5.out x46_2 p108 q108
      obtain rfl : E6 = G1 := (by injection e108)
      replace E3 := (HB.out.cell (World.block_lt_of_cell? w _ E3)).trans E3
      replace E4 := (HB.out.cell (World.block_lt_of_cell? w _ E4)).trans E4
      replace p108 := eq_true p108
      replace q108 := eq_true q108
      go_wp2
      go_ret
      exact ⟨by first | rfl | (simp [errW_none, errW_some] <;> rfl) | (simp [*, errW_none, errW_some] <;> rfl), by exact zb0 HB⟩
     rw [if_neg c24] at H
     have E0l : decide (1048576 < ((rd_T28 l0_3 x46_2).f0)) = false := decide_eq_false c24
     clear c24
     by_cases c26 : ((rd_T28 l0_3 x46_2).f1) < (-1048576)
     ·rw [if_pos c26] at H
      have E0m : decide (((rd_T28 l0_3 x46_2).f1) < (-1048576)) = true := decide_eq_true c26
      clear c26
      obtain rfl := Option.some.inj H
      obtain ⟨E0J, E0K, E0L, E0M, E0N, E0O, E0P, E0Q⟩ := zq4 E0
      have p107 : 0 ≤ (x46_2 : Int) := of_decide_eq_true (by first | (with_reducible assumption) | assumption)
      have q107 : x46_2 < (l0_3.length : Int) := of_decide_eq_true (by first | (with_reducible assumption) | assumption)
      obtain ⟨E6, e107, E1, E2⟩ := at_T28 E5.out x46_2 p107 q107
      cases e107
      replace E1 := (HB.out.cell (World.block_lt_of_cell? w _ E1)).trans E1
      replace E2 := (HB.out.cell (World.block_lt_of_cell? w _ E2)).trans E2
      replace p107 := eq_true p107
      replace q107 := eq_true q107
      have p108 : 0 ≤ (x46_2 : Int) := of_decide_eq_true (by first | (with_reducible assumption) | assumption)
      have q108 : x46_2 < (l0_3.length : Int) := of_decide_eq_true (by first | (with_reducible assumption) | assumption)
      obtain ⟨G1, e108, E3, E4⟩ := at_T28 E5.out x46_2 p108 q108
      obtain rfl : E6 = G1 := (by injection e108)
      replace E3 := (HB.out.cell (World.block_lt_of_cell? w _ E3)).trans E3
      replace E4 := (HB.out.cell (World.block_lt_of_cell? w _ E4)).trans E4
      replace p108 := eq_true p108
      replace q108 := eq_true q108
      have p109 : 0 ≤ (x46_2 : Int) := of_decide_eq_true (by first | (with_reducible assumption) | assumption)
      have q109 : x46_2 < (l0_3.length : Int) := of_decide_eq_true (by first | (with_reducible assumption) | assumption)
      obtain ⟨G4, e109, E7, E8⟩ := at_T28 E5.out x46_2 p109 q109
      obtain rfl : E6 = G4 := (by injection e109)
      replace E7 := (HB.out.cell (World.block_lt_of_cell? w _ E7)).trans E7
      replace E8 := (HB.out.cell (World.block_lt_of_cell? w _ E8)).trans E8
      replace p109 := eq_true p109
      replace q109 := eq_true q109
      go_wp2
      go_ret
      exact ⟨by first | rfl | (simp [errW_none, errW_some] <;> rfl) | (simp [*, errW_none, errW_some] <;> rfl), by exact zb0 HB⟩
     rw [if_neg c26] at H
     have E0m : decide (((rd_T28 l0_3 x46_2).f1) < (-1048576)) = false := decide_eq_false c26
     clear c26
     by_cases c28 : ((rd_T28 l0_3 x46_2).f1) > 1048576
     ·rw [if_pos c28] at H
      have E0n : decide (1048576 < ((rd_T28 l0_3 x46_2).f1)) = true := decide_eq_true c28
      clear c28
      obtain rfl := Option.some.inj H
      obtain ⟨E0R, E0S, E0T, E0U, E0V, E0W, E0X, E0Y⟩ := zq4 E0
      have p107 : 0 ≤ (x46_2 : Int) := of_decide_eq_true (by first | (with_reducible assumption) | assumption)
      have q107 : x46_2 < (l0_3.length : Int) := of_decide_eq_true (by first | (with_reducible assumption) | assumption)
      obtain ⟨E6, e107, E1, E2⟩ := at_T28 E5.out x46_2 p107 q107
      cases e107
      replace E1 := (HB.out.cell (World.block_lt_of_cell? w _ E1)).trans E1
      replace E2 := (HB.out.cell (World.block_lt_of_cell? w _ E2)).trans E2
      replace p107 := eq_true p107
      replace q107 := eq_true q107
      have p108 : 0 ≤ (x46_2 : Int) := of_decide_eq_true (by first | (with_reducible assumption) | assumption)
      have q108 : x46_2 < (l0_3.length : Int) := of_decide_eq_true (by first | (with_reducible assumption) | assumption)
      obtain ⟨G1, e108, E3, E4⟩ := at_T28 E5.out x46_2 p108 q108
      obtain rfl : E6 = G1 := (by injection e108)
      replace E3 := (HB.out.cell (World.block_lt_of_cell? w _ E3)).trans E3
      replace E4 := (HB.out.cell (World.block_lt_of_cell? w _ E4)).trans E4
      replace p108 := eq_true p108
      replace q108 := eq_true q108
      have p109 : 0 ≤ (x46_2 : Int) := of_decide_eq_true (by first | (with_reducible assumption) | assumption)
      have q109 : x46_2 < (l0_3.length : Int) := of_decide_eq_true (by first | (with_reducible assumption) | assumption)
      obtain ⟨G4, e109, E7, E8⟩ := at_T28 E5.out x46_2 p109 q109
      obtain rfl : E6 = G4 := (by injection e109)
      replace E7 := (HB.out.cell (World.block_lt_of_cell? w _ E7)).trans E7
      replace E8 := (HB.out.cell (World.block_lt_of_cell? w _ E8)).trans E8
      replace p109 := eq_true p109
      replace q109 := eq_true q109
      have p110 : 0 ≤ (x46_2 : Int) := of_decide_eq_true (by first | (with_reducible assumption) | assumption)
      have q110 : x46_2 < (l0_3.length : Int) := of_decide_eq_true (by first | (with_reducible assumption) | assumption)
      obtain ⟨V3, e110, G2, G3⟩ := at_T28 E5.out x46_2 p110 q110
      obtain rfl : E6 = V3 := (by injection e110)
      replace G2 := (HB.out.cell (World.block_lt_of_cell? w _ G2)).trans G2
      replace G3 := (HB.out.cell (World.block_lt_of_cell? w _ G3)).trans G3
      replace p110 := eq_true p110
      replace q110 := eq_true q110
      go_wp2
      go_ret
      exact ⟨by first | rfl | (simp [errW_none, errW_some] <;> rfl) | (simp [*, errW_none, errW_some] <;> rfl), by exact zb0 HB⟩
     rw [if_neg c28] at H
     have E0n : decide (1048576 < ((rd_T28 l0_3 x46_2).f1)) = false := decide_eq_false c28
     clear c28
     have H' := Aside0.mk H
     clear H
     obtain ⟨E0Z, E1a, E1b, E1c, E1d, E1e, E1f, E1g⟩ := zq4 E0
     have p107 : 0 ≤ (x46_2 : Int) := of_decide_eq_true (by first | (with_reducible assumption) | assumption)
     have q107 : x46_2 < (l0_3.length : Int) := of_decide_eq_true (by first | (with_reducible assumption) | assumption)
     obtain ⟨E6, e107, E1, E2⟩ := at_T28 E5.out x46_2 p107 q107
     cases e107
     replace E1 := (HB.out.cell (World.block_lt_of_cell? w _ E1)).trans E1
     replace E2 := (HB.out.cell (World.block_lt_of_cell? w _ E2)).trans E2
     replace p107 := eq_true p107
     replace q107 := eq_true q107
     have p108 : 0 ≤ (x46_2 : Int) := of_decide_eq_true (by first | (with_reducible assumption) | assumption)
     have q108 : x46_2 < (l0_3.length : Int) := of_decide_eq_true (by first | (with_reducible assumption) | assumption)
     obtain ⟨G1, e108, E3, E4⟩ := at_T28 E5.out x46_2 p108 q108
     obtain rfl : E6 = G1 := (by injection e108)
     replace E3 := (HB.out.cell (World.block_lt_of_cell? w _ E3)).trans E3
     replace E4 := (HB.out.cell (World.block_lt_of_cell? w _ E4)).trans E4
     replace p108 := eq_true p108
     replace q108 := eq_true q108
     have p109 : 0 ≤ (x46_2 : Int) := of_decide_eq_true (by first | (with_reducible assumption) | assumption)
     have q109 : x46_2 < (l0_3.length : Int) := of_decide_eq_true (by first | (with_reducible assumption) | assumption)
     obtain ⟨G4, e109, E7, E8⟩ := at_T28 E5.out x46_2 p109 q109
     obtain rfl : E6 = G4 := (by injection e109)
     replace E7 := (HB.out.cell (World.block_lt_of_cell? w _ E7)).trans E7
     replace E8 := (HB.out.cell (World.block_lt_of_cell? w _ E8)).trans E8
     replace p109 := eq_true p109
     replace q109 := eq_true q109
     have p110 : 0 ≤ (x46_2 : Int) := of_decide_eq_true (by first | (with_reducible assumption) | assumption)
     have q110 : x46_2 < (l0_3.length : Int) := of_decide_eq_true (by first | (with_reducible assumption) | assumption)
     obtain ⟨V3, e110, G2, G3⟩ := at_T28 E5.out x46_2 p110 q110
     obtain rfl : E6 = V3 := (by injection e110)
     replace G2 := (HB.out.cell (World.block_lt_of_cell? w _ G2)).trans G2
     replace G3 := (HB.out.cell (World.block_lt_of_cell? w _ G3)).trans G3
     replace p110 := eq_true p110
     replace q110 := eq_true q110
     go_wp2
     go_roundg k2
     case measure => have := HJ1.out; have := HK2.out; omega
     case rel => exact ⟨(wrap64 (x46_2 + 1)), (by first | rfl | (simp; done) | (simp [*]; done)), H', ⟨by have := HJ1.out; have := HK2.out; omega⟩, ⟨by exact zk0 E0⟩, ⟨by exact zb0 HB⟩⟩
end Go.Proofs.Ytnfbabmceddciaa.G
