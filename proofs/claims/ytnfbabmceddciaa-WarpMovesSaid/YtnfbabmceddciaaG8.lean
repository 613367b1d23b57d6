/- Contracts of functions of the program, each as it is called: what it computes (.f), that it computes no less with more rounds (.mono), and that a call returns just that (.calls). No conditions but those that each contract names. Written by a program of this session (wip/gx.py over the kit's print). -/
import Derived.Test.YtnfbabmceddciaaG0
import Derived.Test.YtnfbabmceddciaaG1
import Derived.Test.YtnfbabmceddciaaG4
namespace Go.Proofs.Ytnfbabmceddciaa.G
open Go.RowKit Go.Proofs.YtnfbabmceddciaaW.PrintWords Go.Proofs.YtnfbabmceddciaaW.PrintLast Go.Proofs.YtnfbabmceddciaaW.PrintMore
attribute [local go_sem] max2_int min2_int max_two min_two max_three min_three max_four min_four max_five min_five   -- for this text's walks alone
set_option linter.unusedVariables false
set_option linter.unusedSimpArgs false


/-! ### rect_Grow: function 38 -/
def rect_Grow.j0 : Nat → Int → Bool → Int → Int → Int → Int → Option (Int × Int × Int × Int)
 | 0, _, _, _, _, _, _ => none
 | k + 1, x1, x24, G0, G1, G2, G3 => if x24 = true then (some (0, 0, 0, 0)) else ((rect_world.f).bind fun E7 => ((rect_meet.f (wrap64 (G0 - x1)) (wrap64 (G1 - x1)) (wrap64 (G2 + (wrap64 (2 * x1)))) (wrap64 (G3 + (wrap64 (2 * x1)))) E7.1 E7.2.1 E7.2.2.1 E7.2.2.2).bind fun E8 => (some (E8.1, E8.2.1, E8.2.2.1, E8.2.2.2))))
def rect_Grow.f (k : Nat) (a0_0 : Int) (a0_1 : Int) (a0_2 : Int) (a0_3 : Int) (a1 : Int) : Option (Int × Int × Int × Int) := (rect_limit.f a1).bind fun t221 => ((rect_Empty.f a0_0 a0_1 a0_2 a0_3).bind fun t222 => (if t222 = true then (rect_Grow.j0 k t221 true a0_0 a0_1 a0_2 a0_3) else (if (wrap64 (a0_2 + (wrap64 (2 * t221)))) ≤ 0 then (rect_Grow.j0 k t221 true a0_0 a0_1 a0_2 a0_3) else (rect_Grow.j0 k t221 (decide ((wrap64 (a0_3 + (wrap64 (2 * t221)))) ≤ 0)) a0_0 a0_1 a0_2 a0_3))))
theorem rect_Grow.mono_l : ∀ k, (∀ y0 y1 y2 y3 y4 y5, LeO (rect_Grow.j0 k y0 y1 y2 y3 y4 y5) (rect_Grow.j0 (k + 1) y0 y1 y2 y3 y4 y5))
 | 0 => fun _ _ _ _ _ _ r h => by simp [rect_Grow.j0] at h
 | k + 1 => by
  have ih0 := rect_Grow.mono_l k
  ·intro y0 y1 y2 y3 y4 y5
   unfold rect_Grow.j0
   repeat' first
   | (with_reducible exact ih0 _ _ _ _ _ _)
   | (with_reducible exact LeO.refl _)
   | (with_reducible exact LeO.none _)
   | (with_reducible refine LeO.ite ?_ ?_)
   | (with_reducible refine LeO.bind ?_ (fun _ => ?_))
   | exact ih0 _ _ _ _ _ _
   | exact LeO.none _
   | refine LeO.ite ?_ ?_
   | refine LeO.bind ?_ (fun _ => ?_)
theorem rect_Grow.mono : ∀ a0 a1 a2 a3 a4 k, LeO (rect_Grow.f k a0 a1 a2 a3 a4) (rect_Grow.f (k + 1) a0 a1 a2 a3 a4) := by
 intro a0 a1 a2 a3 a4 k
 have ih0 := rect_Grow.mono_l k
 unfold rect_Grow.f
 repeat' first
   | (with_reducible exact ih0 _ _ _ _ _ _)
   | (with_reducible exact LeO.refl _)
   | (with_reducible exact LeO.none _)
   | (with_reducible refine LeO.ite ?_ ?_)
   | (with_reducible refine LeO.bind ?_ (fun _ => ?_))
   | exact ih0 _ _ _ _ _ _
   | exact LeO.none _
   | refine LeO.ite ?_ ?_
   | refine LeO.bind ?_ (fun _ => ?_)
def rect_Grow.T4 : Bool × List (List Nat × List Nat) := (true, [([], []), ([0], [0]), ([], []), ([1, 2], [1, 2]), ([], []), ([4], [4]), ([], []), ([5, 6], [5, 6]), ([], []), ([8], [8]), ([], []), ([10], [10]), ([9, 11], [9, 11]), ([], []), ([13], [13]), ([], []), ([15], [15]), ([14, 16], [14, 16]), ([3, 7, 12, 17], [3, 7, 12, 17]), ([], []), ([18, 19, 19], [18, 19]), ([20, 20, 0, 1, 2, 3, 4, 5, 6, 7, 8, 9, 10, 11, 12, 13, 14, 15, 16, 17, 18, 19, 20], [20])])
def rect_Grow.B4 : List Nat := [0, 1, 0, 7, 0, 16, 0, 112, 0, 256, 0, 1024, 3840, 0, 8192, 0, 32768, 122880, 262143, 0, 1048575, 2097151]
theorem rect_Grow.tab4 : rtab .any (opsOf Try.f38 4) = rect_Grow.T4 := by kernel_rfl
theorem rect_Grow.bits4 : waitsOk rect_Grow.T4.2 rect_Grow.B4 = true := by kernel_rfl
set_option maxHeartbeats 8000000 in
set_option maxRecDepth 100000 in
theorem rect_Grow.calls (k : Nat) (a0_0 : Int) (a0_1 : Int) (a0_2 : Int) (a0_3 : Int) (a1 : Int) (r1 : Int) (r2 : Int) (r3 : Int) (r4 : Int) (w : World) (h : rect_Grow.f k a0_0 a0_1 a0_2 a0_3 a1 = some (r1, r2, r3, r4)) :
  Calls Try.prog 38 #[.agg #[.int .i64 a0_0, .int .i64 a0_1, .int .i64 a0_2, .int .i64 a0_3], .int .i64 a1] w fun e w' => e = .returned (.agg #[.int .i64 r1, .int .i64 r2, .int .i64 r3, .int .i64 r4]) ∧ Below w.heap.size w w' := by
 have hu34 := Try.underlying34
 have HB := Aside0.mk (Below.refl w.heap.size w)
 have H : ((rect_limit.f a1).bind fun t221 => ((rect_Empty.f a0_0 a0_1 a0_2 a0_3).bind fun t222 => (if t222 = true then (rect_Grow.j0 k t221 true a0_0 a0_1 a0_2 a0_3) else (if (wrap64 (a0_2 + (wrap64 (2 * t221)))) ≤ 0 then (rect_Grow.j0 k t221 true a0_0 a0_1 a0_2 a0_3) else (rect_Grow.j0 k t221 (decide ((wrap64 (a0_3 + (wrap64 (2 * t221)))) ≤ 0)) a0_0 a0_1 a0_2 a0_3))))) = some (r1, r2, r3, r4) := h
 clear h
 replace H := Option.bind_eq_some_iff.mp H
 obtain ⟨t221, A30, H⟩ := H
 try dsimp only at H
 have A3 := Aside0.mk A30
 clear A30
 have HC4 := Aside0.mk H
 clear H
 go_enter Try.func38, Try.ntmps38
 go_upto_region 2 with (first | ((with_reducible refine gate_dst (N := 2) rfl ?_); refine box_event ?hg (N := 2) ?hd (cs := #[.int .i64 a0_0, .int .i64 a0_1, .int .i64 a0_2, .int .i64 a0_3]) (t := 34) ?hr ?_; (case hd => rfl); (case hg => rfl); (case hr => first | (go_simp; done) | (go_simp; rfl)); intro E5 hg w5 hbox hb; have J4 := zg HB hg; have J5 := zg HB hg; have n0_ := Aside0.mk (hbox); replace HB := zb HB hb; have E0 := n0_; clear n0_; clear hb hbox hg) | ((with_reducible refine gate_dst (N := 4) rfl ?_); refine box_event ?hg (N := 4) ?hd (cs := #[.int .i64 0, .int .i64 0, .int .i64 0, .int .i64 0]) (t := 34) ?hr ?_; (case hd => rfl); (case hg => rfl); (case hr => first | (go_simp; done) | (go_simp; rfl)); intro E2 hg w6 hbox hb; have J6 := zg HB hg; have E9 := zg HB hg; have E3 := zn E0 hg; have E6 := zn' E0 hg; have n0_ := Aside0.mk (hbox); replace E0 := zk E0 hb; replace HB := zb HB hb; have E1 := n0_; clear n0_; clear hb hbox hg) | ((with_reducible refine gate_callee (f := 71) rfl ?_); refine goesL_ (some 6) rfl rfl Try.func71 (by kernel_rfl) rfl #[.int .i64 a1] rfl (by (try simp only [List.map_toArray, List.map_cons, List.map_nil]); first | done | rfl | (simp only [List.length_drop, List.length_take]; rfl)) ?_; (with_reducible refine (rect_limit.calls a1 t221 _ A3.out).mono ?_); rintro e w7 ⟨rfl, hb⟩; refine ⟨_, rfl, ?_⟩; replace E0 := zk E0 hb; replace E1 := zk E1 hb; replace HB := zb HB hb; (try clear hb); (try clear hb2); (try clear hk); (try clear hi)))
 (try simp only [Act.put, sA, sB, sC])
 go_cut [24] (fun v24 wc => ∃ (kq : Nat) (x24_3 : Bool), v24 = .bool x24_3 ∧ Aside0 (rect_Grow.j0 kq t221 x24_3 a0_0 a0_1 a0_2 a0_3 = some (r1, r2, r3, r4)) ∧ Aside0 (kq ≤ k) ∧ Aside0 (wc.heap[E5]? = some (.cells #[.int .i64 a0_0, .int .i64 a0_1, .int .i64 a0_2, .int .i64 a0_3] 34 (0, 0))) ∧ Aside0 (wc.heap[E2]? = some (.cells #[.int .i64 0, .int .i64 0, .int .i64 0, .int .i64 0] 34 (0, 0))) ∧ Aside0 (Below w.heap.size w wc))
 case first =>
  have H := HC4.out
  clear HC4
  replace H := Option.bind_eq_some_iff.mp H
  obtain ⟨t222, A80, H⟩ := H
  try dsimp only at H
  have A8 := Aside0.mk A80
  clear A80
  by_cases c9 : t222 = true
  ·subst c9
   rw [if_pos rfl] at H
   have H' := Aside0.mk H
   clear H
   obtain ⟨G4, G5, G6, G7, G8, G9, V0, V1⟩ := zq4 E0
   go_wp2_with (first | ((with_reducible refine gate_callee (f := 36) rfl ?_); refine goesL_ (some 8) rfl rfl Try.func36 (by kernel_rfl) rfl #[.agg #[.int .i64 a0_0, .int .i64 a0_1, .int .i64 a0_2, .int .i64 a0_3]] rfl (by (try simp only [List.map_toArray, List.map_cons, List.map_nil]); first | done | rfl | (simp only [List.length_drop, List.length_take]; rfl)) ?_; (with_reducible refine (rect_Empty.calls a0_0 a0_1 a0_2 a0_3 true _ A8.out).mono ?_); rintro e w11 ⟨rfl, hb⟩; refine ⟨_, rfl, ?_⟩; replace E0 := zk E0 hb; replace E1 := zk E1 hb; replace HB := zb HB hb; (try clear hb)))
   go_meet
   case rel => exact ⟨_, (true), (by first | rfl | (simp; done) | (simp [*]; done)), H', ⟨by first | omega | exact Nat.le_refl _⟩, ⟨by exact zk0 E0⟩, ⟨by exact zk0 E1⟩, ⟨by exact zb0 HB⟩⟩
  replace c9 := Bool.eq_false_iff.mpr c9
  subst c9
  rw [if_neg (show ¬ (false = true) by decide)] at H
  by_cases c12 : (wrap64 (a0_2 + (wrap64 (2 * t221)))) ≤ 0
  ·rw [if_pos c12] at H
   have E4 : decide ((wrap64 (a0_2 + (wrap64 (2 * t221)))) ≤ 0) = true := decide_eq_true c12
   clear c12
   (first | rw [E4] | (simp only [i64_w, i32_w]; rw [E4]) | skip)
   have H' := Aside0.mk H
   clear H
   obtain ⟨V2, V3, V4, V5, V6, V7, V8, V9⟩ := zq4 E0
   go_wp2_with (first | ((with_reducible refine gate_callee (f := 36) rfl ?_); refine goesL_ (some 8) rfl rfl Try.func36 (by kernel_rfl) rfl #[.agg #[.int .i64 a0_0, .int .i64 a0_1, .int .i64 a0_2, .int .i64 a0_3]] rfl (by (try simp only [List.map_toArray, List.map_cons, List.map_nil]); first | done | rfl | (simp only [List.length_drop, List.length_take]; rfl)) ?_; (with_reducible refine (rect_Empty.calls a0_0 a0_1 a0_2 a0_3 false _ A8.out).mono ?_); rintro e w14 ⟨rfl, hb⟩; refine ⟨_, rfl, ?_⟩; replace E0 := zk E0 hb; replace E1 := zk E1 hb; replace HB := zb HB hb; (try clear hb); obtain ⟨Y0, Y1, Y2, Y3, Y4, Y5, Y6, Y7⟩ := zq4 E0))
   go_meet
   case rel => exact ⟨_, (true), (by first | rfl | (simp; done) | (simp [*]; done)), H', ⟨by first | omega | exact Nat.le_refl _⟩, ⟨by exact zk0 E0⟩, ⟨by exact zk0 E1⟩, ⟨by exact zb0 HB⟩⟩
  rw [if_neg c12] at H
  have E4 : decide ((wrap64 (a0_2 + (wrap64 (2 * t221)))) ≤ 0) = false := decide_eq_false c12
  clear c12
  (first | rw [E4] | (simp only [i64_w, i32_w]; rw [E4]) | skip)
  have H' := Aside0.mk H
  clear H
  obtain ⟨Y8, Y9, Z0, Z1, Z2, Z3, Z4, Z5⟩ := zq4 E0
  go_wp2_with (first | ((with_reducible refine gate_callee (f := 36) rfl ?_); refine goesL_ (some 8) rfl rfl Try.func36 (by kernel_rfl) rfl #[.agg #[.int .i64 a0_0, .int .i64 a0_1, .int .i64 a0_2, .int .i64 a0_3]] rfl (by (try simp only [List.map_toArray, List.map_cons, List.map_nil]); first | done | rfl | (simp only [List.length_drop, List.length_take]; rfl)) ?_; (with_reducible refine (rect_Empty.calls a0_0 a0_1 a0_2 a0_3 false _ A8.out).mono ?_); rintro e w17 ⟨rfl, hb⟩; refine ⟨_, rfl, ?_⟩; replace E0 := zk E0 hb; replace E1 := zk E1 hb; replace HB := zb HB hb; (try clear hb); obtain ⟨Z6, Z7, Z8, Z9, J0, J1, J2, J3⟩ := zq4 E0))
  go_meet
  case rel => exact ⟨_, (decide ((wrap64 (a0_3 + (wrap64 (2 * t221)))) ≤ 0)), (by first | rfl | (simp; done) | (simp [*]; done)), H', ⟨by first | omega | exact Nat.le_refl _⟩, ⟨by exact zk0 E0⟩, ⟨by exact zk0 E1⟩, ⟨by exact zb0 HB⟩⟩
 case rest =>
  clear HC4
  try clear c1
  try clear p2
  try clear c3
  try clear q4
  try clear p6
  try clear c7
  try clear c9
  try clear c12
  try clear E4
  try clear G4
  try clear G5
  try clear G6
  try clear G7
  try clear V2
  try clear V3
  try clear V4
  try clear V5
  try clear Y0
  try clear Y1
  try clear Y2
  try clear Y3
  try clear Y8
  try clear Y9
  try clear Z0
  try clear Z1
  try clear Z6
  try clear Z7
  try clear Z8
  try clear Z9
  try clear G8
  try clear G9
  try clear V0
  try clear V1
  try clear V6
  try clear V7
  try clear V8
  try clear V9
  try clear Y4
  try clear Y5
  try clear Y6
  try clear Y7
  try clear Z2
  try clear Z3
  try clear Z4
  try clear Z5
  try clear J0
  try clear J1
  try clear J2
  try clear J3
  obtain ⟨kq, x24_3, rfl, HA, HJ3, E0, E1, HB⟩ := hcut
  cases kq with
  | zero => exact absurd HA.out (by simp [rect_Grow.j0])
  | succ kj3 =>
   have H := HA.out
   clear HA
   simp only [rect_Grow.j0] at H
   by_cases c19 : x24_3 = true
   ·subst c19
    rw [if_pos rfl] at H
    simp only [Option.some.injEq, Prod.mk.injEq] at H
    obtain ⟨rfl, rfl, rfl, rfl⟩ := H
    have J7 := E6.out
    have J8 := E3.out
    obtain ⟨J9, L0, L1, L2, L3, L4, L5, L6⟩ := zq4 E1
    go_wp2
    refine bodyPost_ret (results_cell_row rfl _ _ E2 34 #[.int .i64 0, .int .i64 0, .int .i64 0, .int .i64 0] (0, 0) _ rfl (by exact zp E1 rfl) Try.underlying34 rfl (by kernel_rfl)) rfl ?_
    exact ⟨by first | rfl | (simp [errW_none, errW_some] <;> rfl) | (simp [*, errW_none, errW_some] <;> rfl), by exact zbo HB E9⟩
   replace c19 := Bool.eq_false_iff.mpr c19
   subst c19
   rw [if_neg (show ¬ (false = true) by decide)] at H
   replace H := Option.bind_eq_some_iff.mp H
   obtain ⟨⟨t223, t224, t225, t226⟩, A220, H⟩ := H
   try dsimp only at H
   have A22 := Aside0.mk A220
   clear A220
   replace H := Option.bind_eq_some_iff.mp H
   obtain ⟨⟨t227, t228, t229, t230⟩, A230, H⟩ := H
   try dsimp only at H
   have A23 := Aside0.mk A230
   clear A230
   simp only [Option.some.injEq, Prod.mk.injEq] at H
   obtain ⟨rfl, rfl, rfl, rfl⟩ := H
   try go_wp2
   replace E0 := zkd E0
   replace E1 := zkd E1
   replace HB := zbd HB
   refine start_ (n := 22) (S := fun w' => w'.cell? ⟨E5, 0, none⟩ = some (.int .i64 a0_0) ∧ w'.cell? ⟨E5, 1, none⟩ = some (.int .i64 a0_1) ∧ w'.cell? ⟨E5, 2, none⟩ = some (.int .i64 a0_2) ∧ w'.cell? ⟨E5, 3, none⟩ = some (.int .i64 a0_3)) (ds := []) (bs 22 0) (by kernel_rfl) rfl rfl ⟨(blk_cell E0.out 0).trans rfl, (blk_cell E0.out 1).trans rfl, (blk_cell E0.out 2).trans rfl, (blk_cell E0.out 3).trans rfl⟩ (fun hHeld => ?_); refine with_tabW rect_Grow.tab4 rect_Grow.bits4 (fun HT_ HW_ => ?_)
   generalize wc.drew = w24 at E0 E1 HB hHeld ⊢
   refine pure_ (i := 0) (N := some 26) (v := ?_) (a' := ?_) (bs 22 1) rfl rfl (any_of HT_.out (by kernel_rfl)) (fun _ _ _ h => h) (Or.inl ⟨by rfl, ?_⟩) ?_ ?_
   rotate_left
   ·intro w'
    go_simp
    with_reducible rfl
   rotate_left
   ·simp only [Act.put, sA, sB, sC, i64_w, i32_w]
    rfl
   refine pure_ (i := 2) (N := some 28) (v := ?_) (a' := ?_) (bs 22 5) rfl rfl (any_of HT_.out (by kernel_rfl)) (fun _ _ _ h => h) (Or.inl ⟨by rfl, ?_⟩) ?_ ?_
   rotate_left
   ·intro w'
    go_simp
    with_reducible rfl
   rotate_left
   ·simp only [Act.put, sA, sB, sC, i64_w, i32_w]
    rfl
   refine pure_ (i := 4) (N := some 30) (v := ?_) (a' := ?_) (bs 22 21) rfl rfl (any_of HT_.out (by kernel_rfl)) (fun _ _ _ h => h) (Or.inl ⟨by rfl, ?_⟩) ?_ ?_
   rotate_left
   ·intro w'
    go_simp
    with_reducible rfl
   rotate_left
   ·simp only [Act.put, sA, sB, sC, i64_w, i32_w]
    rfl
   refine pure_ (i := 6) (N := some 32) (v := ?_) (a' := ?_) (bs 22 85) rfl rfl (any_of HT_.out (by kernel_rfl)) (fun _ _ _ h => h) (Or.inl ⟨by rfl, ?_⟩) ?_ ?_
   rotate_left
   ·intro w'
    go_simp
    with_reducible rfl
   rotate_left
   ·simp only [Act.put, sA, sB, sC, i64_w, i32_w]
    rfl
   refine pure_ (i := 8) (N := some 34) (v := ?_) (a' := ?_) (bs 22 341) rfl rfl (any_of HT_.out (by kernel_rfl)) (fun _ _ _ h => h) (Or.inl ⟨by rfl, ?_⟩) ?_ ?_
   rotate_left
   ·intro w'
    go_simp
    with_reducible rfl
   rotate_left
   ·simp only [Act.put, sA, sB, sC, i64_w, i32_w]
    rfl
   refine pure_ (i := 10) (N := some 36) (v := ?_) (a' := ?_) (bs 22 1365) rfl rfl (any_of HT_.out (by kernel_rfl)) (fun _ _ _ h => h) (Or.inl ⟨by rfl, ?_⟩) ?_ ?_
   rotate_left
   ·intro w'
    go_simp
    with_reducible rfl
   rotate_left
   ·simp only [Act.put, sA, sB, sC, i64_w, i32_w]
    rfl
   refine pure_ (i := 11) (N := some 37) (v := ?_) (a' := ?_) (bs 22 3413) rfl rfl (any_of HT_.out (by kernel_rfl)) (fun _ _ _ h => h) (Or.inl ⟨by rfl, ?_⟩) ?_ ?_
   rotate_left
   ·intro w'
    go_simp
    with_reducible rfl
   rotate_left
   ·simp only [Act.put, sA, sB, sC, i64_w, i32_w]
    rfl
   refine pure_ (i := 13) (N := some 39) (v := ?_) (a' := ?_) (bs 22 11605) rfl rfl (any_of HT_.out (by kernel_rfl)) (fun _ _ _ h => h) (Or.inl ⟨by rfl, ?_⟩) ?_ ?_
   rotate_left
   ·intro w'
    go_simp
    with_reducible rfl
   rotate_left
   ·simp only [Act.put, sA, sB, sC, i64_w, i32_w]
    rfl
   refine pure_ (i := 15) (N := some 41) (v := ?_) (a' := ?_) (bs 22 44373) rfl rfl (any_of HT_.out (by kernel_rfl)) (fun _ _ _ h => h) (Or.inl ⟨by rfl, ?_⟩) ?_ ?_
   rotate_left
   ·intro w'
    go_simp
    with_reducible rfl
   rotate_left
   ·simp only [Act.put, sA, sB, sC, i64_w, i32_w]
    rfl
   refine pure_ (i := 16) (N := some 42) (v := ?_) (a' := ?_) (bs 22 109909) rfl rfl (any_of HT_.out (by kernel_rfl)) (fun _ _ _ h => h) (Or.inl ⟨by rfl, ?_⟩) ?_ ?_
   rotate_left
   ·intro w'
    go_simp
    with_reducible rfl
   rotate_left
   ·simp only [Act.put, sA, sB, sC, i64_w, i32_w]
    rfl
   refine take_ (i := 1) (N := some 27) (v := ?_) (a' := ?_) (bs 22 109911) rfl rfl (take_ofW HT_.out HW_.out (by kernel_rfl)) (fun _ _ _ h => h) (Or.inl ⟨by rfl, ?_⟩) hHeld ?_ ?_
   rotate_left
   ·rintro w' ⟨s0, s1, s2, s3⟩
    go_simp
    with_reducible rfl
   rotate_left
   ·simp only [Act.put, sA, sB, sC, i64_w, i32_w]
    rfl
   refine pure_ (i := 3) (N := some 29) (v := ?_) (a' := ?_) (bs 22 109919) rfl rfl (any_of HT_.out (by kernel_rfl)) (fun _ _ _ h => h) (Or.inl ⟨by rfl, ?_⟩) ?_ ?_
   rotate_left
   ·intro w'
    go_simp
    with_reducible rfl
   rotate_left
   ·simp only [Act.put, sA, sB, sC, i64_w, i32_w]
    rfl
   refine take_ (i := 5) (N := some 31) (v := ?_) (a' := ?_) (bs 22 109951) rfl rfl (take_ofW HT_.out HW_.out (by kernel_rfl)) (fun _ _ _ h => h) (Or.inl ⟨by rfl, ?_⟩) hHeld ?_ ?_
   rotate_left
   ·rintro w' ⟨s0, s1, s2, s3⟩
    go_simp
    with_reducible rfl
   rotate_left
   ·simp only [Act.put, sA, sB, sC, i64_w, i32_w]
    rfl
   refine pure_ (i := 7) (N := some 33) (v := ?_) (a' := ?_) (bs 22 110079) rfl rfl (any_of HT_.out (by kernel_rfl)) (fun _ _ _ h => h) (Or.inl ⟨by rfl, ?_⟩) ?_ ?_
   rotate_left
   ·intro w'
    go_simp
    with_reducible rfl
   rotate_left
   ·simp only [Act.put, sA, sB, sC, i64_w, i32_w]
    rfl
   refine take_ (i := 9) (N := some 35) (v := ?_) (a' := ?_) (bs 22 110591) rfl rfl (take_ofW HT_.out HW_.out (by kernel_rfl)) (fun _ _ _ h => h) (Or.inl ⟨by rfl, ?_⟩) hHeld ?_ ?_
   rotate_left
   ·rintro w' ⟨s0, s1, s2, s3⟩
    go_simp
    with_reducible rfl
   rotate_left
   ·simp only [Act.put, sA, sB, sC, i64_w, i32_w]
    rfl
   refine pure_ (i := 12) (N := some 38) (v := ?_) (a' := ?_) (bs 22 114687) rfl rfl (any_of HT_.out (by kernel_rfl)) (fun _ _ _ h => h) (Or.inl ⟨by rfl, ?_⟩) ?_ ?_
   rotate_left
   ·intro w'
    go_simp
    with_reducible rfl
   rotate_left
   ·simp only [Act.put, sA, sB, sC, i64_w, i32_w]
    rfl
   refine take_ (i := 14) (N := some 40) (v := ?_) (a' := ?_) (bs 22 131071) rfl rfl (take_ofW HT_.out HW_.out (by kernel_rfl)) (fun _ _ _ h => h) (Or.inl ⟨by rfl, ?_⟩) hHeld ?_ ?_
   rotate_left
   ·rintro w' ⟨s0, s1, s2, s3⟩
    go_simp
    with_reducible rfl
   rotate_left
   ·simp only [Act.put, sA, sB, sC, i64_w, i32_w]
    rfl
   refine pure_ (i := 17) (N := some 43) (v := ?_) (a' := ?_) (bs 22 262143) rfl rfl (any_of HT_.out (by kernel_rfl)) (fun _ _ _ h => h) (Or.inl ⟨by rfl, ?_⟩) ?_ ?_
   rotate_left
   ·intro w'
    go_simp
    with_reducible rfl
   rotate_left
   ·simp only [Act.put, sA, sB, sC, i64_w, i32_w]
    rfl
   refine pure_ (i := 18) (N := some 44) (v := ?_) (a' := ?_) (bs 22 524287) rfl rfl (any_of HT_.out (by kernel_rfl)) (fun _ _ _ h => h) (Or.inl ⟨by rfl, ?_⟩) ?_ ?_
   rotate_left
   ·intro w'
    go_simp
    with_reducible rfl
   rotate_left
   ·simp only [Act.put, sA, sB, sC, i64_w, i32_w]
    rfl
   refine one_ (i := 19) (N := some 45) (bs 22 1048575) rfl rfl (one_of HT_.out (by kernel_rfl)) (by decide) (fun K hK => ?_)
   refine goes_ Try.func72 (by kernel_rfl) rfl #[] (by rfl) rfl rfl (by (try simp only [List.map_toArray, List.map_cons, List.map_nil]); first | done | rfl | (simp only [List.length_drop, List.length_take]; rfl)) ?_
   with_reducible refine (rect_world.calls  t223 t224 t225 t226 _ A22.out).mono ?_
   rintro e w25 ⟨rfl, hb⟩
   refine ⟨_, rfl, ?_⟩
   replace E0 := zk E0 hb
   replace E1 := zk E1 hb
   replace HB := zb HB hb
   (try clear hb)
   (try clear hb2)
   (try clear hk)
   (try clear hi)
   refine hK.out _ _ ⟨(blk_cell E0.out 0).trans rfl, (blk_cell E0.out 1).trans rfl, (blk_cell E0.out 2).trans rfl, (blk_cell E0.out 3).trans rfl⟩ (fun hHeld => ?_)
   clear hK K
   refine norm_ (a' := ?_) ?_ ?_
   rotate_left
   ·show Act.put _ (some 45) _ = _
    simp only [Act.put, sA, sB, sC, i64_w, i32_w]
    rfl
   refine one_ (i := 20) (N := some 46) (bs 22 2097151) rfl rfl (one_of HT_.out (by kernel_rfl)) (by decide) (fun K hK => ?_)
   refine goes_ Try.func70 (by kernel_rfl) rfl #[.agg #[.int .i64 (wrap64 (a0_0 - t221)), .int .i64 (wrap64 (a0_1 - t221)), .int .i64 (wrap64 (a0_2 + (wrap64 (2 * t221)))), .int .i64 (wrap64 (a0_3 + (wrap64 (2 * t221))))], .agg #[.int .i64 t223, .int .i64 t224, .int .i64 t225, .int .i64 t226]] (by rfl) rfl rfl (by (try simp only [List.map_toArray, List.map_cons, List.map_nil]); first | done | rfl | (simp only [List.length_drop, List.length_take]; rfl)) ?_
   with_reducible refine (rect_meet.calls (wrap64 (a0_0 - t221)) (wrap64 (a0_1 - t221)) (wrap64 (a0_2 + (wrap64 (2 * t221)))) (wrap64 (a0_3 + (wrap64 (2 * t221)))) t223 t224 t225 t226 t227 t228 t229 t230 _ A23.out).mono ?_
   rintro e w26 ⟨rfl, hb⟩
   refine ⟨_, rfl, ?_⟩
   replace E0 := zk E0 hb
   replace E1 := zk E1 hb
   replace HB := zb HB hb
   (try clear hb)
   (try clear hb2)
   (try clear hk)
   (try clear hi)
   refine hK.out _ _ ⟨(blk_cell E0.out 0).trans rfl, (blk_cell E0.out 1).trans rfl, (blk_cell E0.out 2).trans rfl, (blk_cell E0.out 3).trans rfl⟩ (fun hHeld => ?_)
   clear hK K
   refine norm_ (a' := ?_) ?_ ?_
   rotate_left
   ·show Act.put _ (some 46) _ = _
    simp only [Act.put, sA, sB, sC, i64_w, i32_w]
    rfl
   refine one_ (i := 21) (N := none) (bs 22 4194303) rfl rfl (one_of HT_.out (by kernel_rfl)) (by decide) (fun K hK => ?_)
   have hs27 : w26.cell? ⟨E2, 0, none⟩ = some (.int .i64 0) := (blk_cell E1.out 0).trans rfl
   have hfs27 := blk_frozen E1.out 0
   have L7 := E3.out
   have L8 := E6.out
   have hs28 : w26.cell? ⟨E2, 1, none⟩ = some (.int .i64 0) := (blk_cell E1.out 1).trans rfl
   have hfs28 := blk_frozen E1.out 1
   have L9 := E3.out
   have Q0 := E6.out
   have hs29 : w26.cell? ⟨E2, 2, none⟩ = some (.int .i64 0) := (blk_cell E1.out 2).trans rfl
   have hfs29 := blk_frozen E1.out 2
   have Q1 := E3.out
   have Q2 := E6.out
   have hs30 : w26.cell? ⟨E2, 3, none⟩ = some (.int .i64 0) := (blk_cell E1.out 3).trans rfl
   have hfs30 := blk_frozen E1.out 3
   have Q3 := E3.out
   have Q4 := E6.out
   refine skip_ (w1 := ?_) (by rfl) rfl ?_ ?_
   rotate_left
   ·go_simp
    rfl
   refine hK.out _ _ ⟨((cell_far (p := ⟨E2, _, none⟩) E3.out _).trans (((cell_far (p := ⟨E2, _, none⟩) E3.out _).trans (((cell_far (p := ⟨E2, _, none⟩) E3.out _).trans (((cell_far (p := ⟨E2, _, none⟩) E3.out _).trans (hHeld.1)))))))), ((cell_far (p := ⟨E2, _, none⟩) E3.out _).trans (((cell_far (p := ⟨E2, _, none⟩) E3.out _).trans (((cell_far (p := ⟨E2, _, none⟩) E3.out _).trans (((cell_far (p := ⟨E2, _, none⟩) E3.out _).trans (hHeld.2.1)))))))), ((cell_far (p := ⟨E2, _, none⟩) E3.out _).trans (((cell_far (p := ⟨E2, _, none⟩) E3.out _).trans (((cell_far (p := ⟨E2, _, none⟩) E3.out _).trans (((cell_far (p := ⟨E2, _, none⟩) E3.out _).trans (hHeld.2.2.1)))))))), ((cell_far (p := ⟨E2, _, none⟩) E3.out _).trans (((cell_far (p := ⟨E2, _, none⟩) E3.out _).trans (((cell_far (p := ⟨E2, _, none⟩) E3.out _).trans (((cell_far (p := ⟨E2, _, none⟩) E3.out _).trans (hHeld.2.2.2))))))))⟩ (fun hHeld => ?_)
   clear hK K
   refine done_ (done_of HT_.out (by kernel_rfl)) ?_
   try go_wp2
   refine bodyPost_ret (results_cell_row rfl _ _ E2 34 #[.int .i64 t227, .int .i64 t228, .int .i64 t229, .int .i64 t230] (0, 0) _ rfl (by exact zp E1 rfl) Try.underlying34 rfl (by kernel_rfl)) rfl ?_
   exact ⟨by first | rfl | (simp [errW_none, errW_some] <;> rfl) | (simp [*, errW_none, errW_some] <;> rfl), by exact zbo HB E9⟩

/-! ### kernel_Support: function 39 -/
def kernel_Support.f (a0 : Int) : Option (Int) := (kernel_Valid.f a0).bind fun t231 => (if t231 = true then (if a0 = 2 then (some 2) else (if a0 = 4 then (some 2) else (some 1))) else (some 0))
set_option maxHeartbeats 8000000 in
set_option maxRecDepth 100000 in
theorem kernel_Support.calls (a0 : Int) (r : Int) (w : World) (h : kernel_Support.f a0 = some r) :
  Calls Try.prog 39 #[.int .i64 a0] w fun e w' => e = .returned (.int .i64 r) ∧ Drawn0 w w' := by
 have H : ((kernel_Valid.f a0).bind fun t231 => (if t231 = true then (if a0 = 2 then (some 2) else (if a0 = 4 then (some 2) else (some 1))) else (some 0))) = some r := h
 clear h
 replace H := Option.bind_eq_some_iff.mp H
 obtain ⟨t231, A20, H⟩ := H
 try dsimp only at H
 have A2 := Aside0.mk A20
 clear A20
 by_cases c3 : t231 = true
 rotate_left
 ·replace c3 := Bool.eq_false_iff.mpr c3
  subst c3
  rw [if_neg (show ¬ (false = true) by decide)] at H
  obtain rfl := Option.some.inj H
  go_enter Try.func39, Try.ntmps39
  go_wp2_with (first | ((with_reducible refine gate_callee (f := 34) rfl ?_); refine goesL_ (some 5) rfl rfl Try.func34 (by kernel_rfl) rfl #[.int .i64 a0] rfl (by (try simp only [List.map_toArray, List.map_cons, List.map_nil]); first | done | rfl | (simp only [List.length_drop, List.length_take]; rfl)) ?_; (with_reducible refine (kernel_Valid.calls a0 false _ A2.out).mono ?_); rintro e w' ⟨rfl, ⟨nd, rfl⟩⟩; refine ⟨_, rfl, ?_⟩))
  go_ret
  exact ⟨by first | rfl | (simp; done) | (simp [*]; done), by repeat (first | exact Drawn0.refl _ | apply Drawn0.step)⟩

 subst c3
 rw [if_pos rfl] at H
 by_cases c4 : a0 = 2
 ·rw [if_pos c4] at H
  have E0 : (a0 == 2) = true := beq_iff_eq.mpr c4
  have E1 : (a0 != 2) = false := bne_eq_false_iff_eq.mpr c4
  clear c4
  obtain rfl := Option.some.inj H
  go_enter Try.func39, Try.ntmps39
  go_wp2_with (first | ((with_reducible refine gate_callee (f := 34) rfl ?_); refine goesL_ (some 5) rfl rfl Try.func34 (by kernel_rfl) rfl #[.int .i64 a0] rfl (by (try simp only [List.map_toArray, List.map_cons, List.map_nil]); first | done | rfl | (simp only [List.length_drop, List.length_take]; rfl)) ?_; (with_reducible refine (kernel_Valid.calls a0 true _ A2.out).mono ?_); rintro e w' ⟨rfl, ⟨nd, rfl⟩⟩; refine ⟨_, rfl, ?_⟩))
  go_ret
  exact ⟨by first | rfl | (simp; done) | (simp [*]; done), by repeat (first | exact Drawn0.refl _ | apply Drawn0.step)⟩
 rw [if_neg c4] at H
 have E0 : (a0 == 2) = false := beq_eq_false_iff_ne.mpr c4
 have E1 : (a0 != 2) = true := bne_iff_ne.mpr c4
 by_cases c5 : a0 = 4
 ·rw [if_pos c5] at H
  have E2 : (a0 == 4) = true := beq_iff_eq.mpr c5
  have E3 : (a0 != 4) = false := bne_eq_false_iff_eq.mpr c5
  clear c5
  obtain rfl := Option.some.inj H
  go_enter Try.func39, Try.ntmps39
  go_wp2_with (first | ((with_reducible refine gate_callee (f := 34) rfl ?_); refine goesL_ (some 5) rfl rfl Try.func34 (by kernel_rfl) rfl #[.int .i64 a0] rfl (by (try simp only [List.map_toArray, List.map_cons, List.map_nil]); first | done | rfl | (simp only [List.length_drop, List.length_take]; rfl)) ?_; (with_reducible refine (kernel_Valid.calls a0 true _ A2.out).mono ?_); rintro e w' ⟨rfl, ⟨nd, rfl⟩⟩; refine ⟨_, rfl, ?_⟩))
  go_ret
  exact ⟨by first | rfl | (simp; done) | (simp [*]; done), by repeat (first | exact Drawn0.refl _ | apply Drawn0.step)⟩
 rw [if_neg c5] at H
 have E2 : (a0 == 4) = false := beq_eq_false_iff_ne.mpr c5
 have E3 : (a0 != 4) = true := bne_iff_ne.mpr c5
 obtain rfl := Option.some.inj H
 go_enter Try.func39, Try.ntmps39
 go_wp2_with (first | ((with_reducible refine gate_callee (f := 34) rfl ?_); refine goesL_ (some 5) rfl rfl Try.func34 (by kernel_rfl) rfl #[.int .i64 a0] rfl (by (try simp only [List.map_toArray, List.map_cons, List.map_nil]); first | done | rfl | (simp only [List.length_drop, List.length_take]; rfl)) ?_; (with_reducible refine (kernel_Valid.calls a0 true _ A2.out).mono ?_); rintro e w' ⟨rfl, ⟨nd, rfl⟩⟩; refine ⟨_, rfl, ?_⟩))
 go_ret
 exact ⟨by first | rfl | (simp; done) | (simp [*]; done), by repeat (first | exact Drawn0.refl _ | apply Drawn0.step)⟩
/-! ### warp_Needs: function 17 -/
def warp_Needs.j0 : Nat → Int → Bool → Int → Int → Int → List (S28) → Int → Int → Int → Int → Int → Int → Int → Int → Option (Int × Int × Int × Int × Int)
 | 0, _, _, _, _, _, _, _, _, _, _, _, _, _, _ => none
 | k + 1, x1, x38, Y4, Y5, Y6, Y7, Y8, Y9, Z0, Z1, Z2, Z3, Z4, Z5 => if x38 = true then (some (0, 0, 0, 0, 2)) else ((warp_Reach.f k Y4 Y5 Y6 Y7).bind fun t242 => ((kernel_Support.f x1).bind fun t243 => ((rect_Grow.f k Y8 Y9 Z0 Z1 (wrap64 ((wrap64 (t242 + t243)) + 1))).bind fun G5 => ((rect_Meet.f G5.1 G5.2.1 G5.2.2.1 G5.2.2.2 Z2 Z3 Z4 Z5).bind fun G6 => (some (G6.1, G6.2.1, G6.2.2.1, G6.2.2.2, 0))))))
def warp_Needs.f (k : Nat) (a0_0 : Int) (a0_1 : Int) (a0_2 : Int) (l0_3 : List (S28)) (a1 : Int) (a2_0 : Int) (a2_1 : Int) (a2_2 : Int) (a2_3 : Int) (a3_0 : Int) (a3_1 : Int) (a3_2 : Int) (a3_3 : Int) : Option (Int × Int × Int × Int × Int) := (warp_Check.f k a0_0 a0_1 a0_2 l0_3).bind fun t236 => (if t236 = 0 then ((kernel_Valid.f a1).bind fun t237 => (if t237 = true then ((rect_Valid.f a2_0 a2_1 a2_2 a2_3).bind fun t238 => (if t238 = true then ((rect_Valid.f a3_0 a3_1 a3_2 a3_3).bind fun t239 => (if t239 = true then ((rect_Empty.f a2_0 a2_1 a2_2 a2_3).bind fun t240 => (if t240 = true then (warp_Needs.j0 k a1 true a0_0 a0_1 a0_2 l0_3 a2_0 a2_1 a2_2 a2_3 a3_0 a3_1 a3_2 a3_3) else ((rect_Within.f a2_0 a2_1 a2_2 a2_3 a3_0 a3_1 a3_2 a3_3).bind fun t241 => (warp_Needs.j0 k a1 (!t241) a0_0 a0_1 a0_2 l0_3 a2_0 a2_1 a2_2 a2_3 a3_0 a3_1 a3_2 a3_3)))) else (warp_Needs.j0 k a1 true a0_0 a0_1 a0_2 l0_3 a2_0 a2_1 a2_2 a2_3 a3_0 a3_1 a3_2 a3_3))) else (warp_Needs.j0 k a1 true a0_0 a0_1 a0_2 l0_3 a2_0 a2_1 a2_2 a2_3 a3_0 a3_1 a3_2 a3_3))) else (some (0, 0, 0, 0, 8)))) else (some (0, 0, 0, 0, t236)))
theorem warp_Needs.mono_l : ∀ k, (∀ y0 y1 y2 y3 y4 y5 y6 y7 y8 y9 y10 y11 y12 y13, LeO (warp_Needs.j0 k y0 y1 y2 y3 y4 y5 y6 y7 y8 y9 y10 y11 y12 y13) (warp_Needs.j0 (k + 1) y0 y1 y2 y3 y4 y5 y6 y7 y8 y9 y10 y11 y12 y13))
 | 0 => fun _ _ _ _ _ _ _ _ _ _ _ _ _ _ r h => by simp [warp_Needs.j0] at h
 | k + 1 => by
  have ih0 := warp_Needs.mono_l k
  ·intro y0 y1 y2 y3 y4 y5 y6 y7 y8 y9 y10 y11 y12 y13
   unfold warp_Needs.j0
   repeat' first
   | (with_reducible exact ih0 _ _ _ _ _ _ _ _ _ _ _ _ _ _)
   | (with_reducible exact rect_Grow.mono _ _ _ _ _ _)
   | (with_reducible exact warp_Check.mono _ _ _ _ _)
   | (with_reducible exact warp_Reach.mono _ _ _ _ _)
   | (with_reducible exact LeO.refl _)
   | (with_reducible exact LeO.none _)
   | (with_reducible refine LeO.ite ?_ ?_)
   | (with_reducible refine LeO.bind ?_ (fun _ => ?_))
   | exact ih0 _ _ _ _ _ _ _ _ _ _ _ _ _ _
   | exact rect_Grow.mono _ _ _ _ _ _
   | exact warp_Check.mono _ _ _ _ _
   | exact warp_Reach.mono _ _ _ _ _
   | exact LeO.none _
   | refine LeO.ite ?_ ?_
   | refine LeO.bind ?_ (fun _ => ?_)
theorem warp_Needs.mono : ∀ a0 a1 a2 a3 a4 a5 a6 a7 a8 a9 a10 a11 a12 k, LeO (warp_Needs.f k a0 a1 a2 a3 a4 a5 a6 a7 a8 a9 a10 a11 a12) (warp_Needs.f (k + 1) a0 a1 a2 a3 a4 a5 a6 a7 a8 a9 a10 a11 a12) := by
 intro a0 a1 a2 a3 a4 a5 a6 a7 a8 a9 a10 a11 a12 k
 have ih0 := warp_Needs.mono_l k
 unfold warp_Needs.f
 repeat' first
   | (with_reducible exact ih0 _ _ _ _ _ _ _ _ _ _ _ _ _ _)
   | (with_reducible exact rect_Grow.mono _ _ _ _ _ _)
   | (with_reducible exact warp_Check.mono _ _ _ _ _)
   | (with_reducible exact warp_Reach.mono _ _ _ _ _)
   | (with_reducible exact LeO.refl _)
   | (with_reducible exact LeO.none _)
   | (with_reducible refine LeO.ite ?_ ?_)
   | (with_reducible refine LeO.bind ?_ (fun _ => ?_))
   | exact ih0 _ _ _ _ _ _ _ _ _ _ _ _ _ _
   | exact rect_Grow.mono _ _ _ _ _ _
   | exact warp_Check.mono _ _ _ _ _
   | exact warp_Reach.mono _ _ _ _ _
   | exact LeO.none _
   | refine LeO.ite ?_ ?_
   | refine LeO.bind ?_ (fun _ => ?_)
def warp_Needs.T8 : Bool × List (List Nat × List Nat) := (true, [([], []), ([], []), ([1], [1]), ([], []), ([3, 2], [3]), ([2, 4], [2, 4]), ([5], [5]), ([0, 6, 4], [0, 6]), ([], []), ([7, 8, 7], [7, 8]), ([9, 9, 0, 1, 2, 3, 4, 5, 6, 7, 8, 9], [9]), ([10, 0, 1, 2, 3, 4, 5, 6, 7, 8, 9, 10], [])])
def warp_Needs.B8 : List Nat := [0, 0, 2, 0, 14, 30, 62, 127, 0, 511, 1023, 2047]
theorem warp_Needs.tab8 : rtab .any (opsOf Try.f17 8) = warp_Needs.T8 := by kernel_rfl
theorem warp_Needs.bits8 : waitsOk warp_Needs.T8.2 warp_Needs.B8 = true := by kernel_rfl
set_option maxHeartbeats 8000000 in
set_option maxRecDepth 100000 in
theorem warp_Needs.calls (k : Nat) (a0_0 : Int) (a0_1 : Int) (a0_2 : Int) (A0_3 : Option Addr) (c0_3 : Nat) (l0_3 : List (S28)) (a1 : Int) (a2_0 : Int) (a2_1 : Int) (a2_2 : Int) (a2_3 : Int) (a3_0 : Int) (a3_1 : Int) (a3_2 : Int) (a3_3 : Int) (r1 : Int) (r2 : Int) (r3 : Int) (r4 : Int) (r5 : Int) (w : World) (hr0_3 : Kd.C k28 w A0_3 l0_3.length l0_3) (hc0_3 : l0_3.length ≤ c0_3) (h : warp_Needs.f k a0_0 a0_1 a0_2 l0_3 a1 a2_0 a2_1 a2_2 a2_3 a3_0 a3_1 a3_2 a3_3 = some (r1, r2, r3, r4, r5)) :
  Calls Try.prog 17 #[.agg #[.int .i64 a0_0, .int .i64 a0_1, .int .i64 a0_2, .slice A0_3 l0_3.length c0_3], .int .i64 a1, .agg #[.int .i64 a2_0, .int .i64 a2_1, .int .i64 a2_2, .int .i64 a2_3], .agg #[.int .i64 a3_0, .int .i64 a3_1, .int .i64 a3_2, .int .i64 a3_3]] w fun e w' => e = .returned (.tuple #[.agg #[.int .i64 r1, .int .i64 r2, .int .i64 r3, .int .i64 r4], .int .i64 r5]) ∧ Below w.heap.size w w' := by
 have hu24 := Try.underlying24
 have hu34 := Try.underlying34
 have G7 := Aside0.mk hr0_3
 have G8 := Aside0.mk hc0_3
 clear hr0_3 hc0_3
 have HB := Aside0.mk (Below.refl w.heap.size w)
 have H : ((warp_Check.f k a0_0 a0_1 a0_2 l0_3).bind fun t236 => (if t236 = 0 then ((kernel_Valid.f a1).bind fun t237 => (if t237 = true then ((rect_Valid.f a2_0 a2_1 a2_2 a2_3).bind fun t238 => (if t238 = true then ((rect_Valid.f a3_0 a3_1 a3_2 a3_3).bind fun t239 => (if t239 = true then ((rect_Empty.f a2_0 a2_1 a2_2 a2_3).bind fun t240 => (if t240 = true then (warp_Needs.j0 k a1 true a0_0 a0_1 a0_2 l0_3 a2_0 a2_1 a2_2 a2_3 a3_0 a3_1 a3_2 a3_3) else ((rect_Within.f a2_0 a2_1 a2_2 a2_3 a3_0 a3_1 a3_2 a3_3).bind fun t241 => (warp_Needs.j0 k a1 (!t241) a0_0 a0_1 a0_2 l0_3 a2_0 a2_1 a2_2 a2_3 a3_0 a3_1 a3_2 a3_3)))) else (warp_Needs.j0 k a1 true a0_0 a0_1 a0_2 l0_3 a2_0 a2_1 a2_2 a2_3 a3_0 a3_1 a3_2 a3_3))) else (warp_Needs.j0 k a1 true a0_0 a0_1 a0_2 l0_3 a2_0 a2_1 a2_2 a2_3 a3_0 a3_1 a3_2 a3_3))) else (some (0, 0, 0, 0, 8)))) else (some (0, 0, 0, 0, t236)))) = some (r1, r2, r3, r4, r5) := h
 clear h
 replace H := Option.bind_eq_some_iff.mp H
 obtain ⟨t236, A50, H⟩ := H
 try dsimp only at H
 have A5 := Aside0.mk A50
 clear A50
 by_cases c6 : t236 = 0
 rotate_left
 ·rw [if_neg c6] at H
  have V3 : (t236 == 0) = false := beq_eq_false_iff_ne.mpr c6
  have V4 : (t236 != 0) = true := bne_iff_ne.mpr c6
  simp only [Option.some.injEq, Prod.mk.injEq] at H
  obtain ⟨rfl, rfl, rfl, rfl, rfl⟩ := H
  go_enter Try.func17, Try.ntmps17
  go_wp2_with (first | ((with_reducible refine gate_dst (N := 4) rfl ?_); refine box_event ?hg (N := 4) ?hd (cs := #[.int .i64 a0_0, .int .i64 a0_1, .int .i64 a0_2, .slice A0_3 l0_3.length c0_3]) (t := 24) ?hr ?_; (case hd => rfl); (case hg => rfl); (case hr => first | (go_simp; done) | (go_simp; rfl)); intro G1 hg w73 hbox hb; have V5 := zg HB hg; have V6 := zg HB hg; have n0_ := Aside0.mk (hbox); replace HB := zb HB hb; have E0 := n0_; clear n0_; clear hb hbox hg) | ((with_reducible refine gate_dst (N := 6) rfl ?_); refine box_event ?hg (N := 6) ?hd (cs := #[.int .i64 a2_0, .int .i64 a2_1, .int .i64 a2_2, .int .i64 a2_3]) (t := 34) ?hr ?_; (case hd => rfl); (case hg => rfl); (case hr => first | (go_simp; done) | (go_simp; rfl)); intro G2 hg w74 hbox hb; have V7 := zg HB hg; have V8 := zg HB hg; have G9 := zn E0 hg; have V0 := zn' E0 hg; have n0_ := Aside0.mk (hbox); replace E0 := zk E0 hb; replace HB := zb HB hb; have E1 := n0_; clear n0_; clear hb hbox hg) | ((with_reducible refine gate_dst (N := 7) rfl ?_); refine box_event ?hg (N := 7) ?hd (cs := #[.int .i64 a3_0, .int .i64 a3_1, .int .i64 a3_2, .int .i64 a3_3]) (t := 34) ?hr ?_; (case hd => rfl); (case hg => rfl); (case hr => first | (go_simp; done) | (go_simp; rfl)); intro G3 hg w75 hbox hb; have V9 := zg HB hg; have Y0 := zg HB hg; have V1 := zn E0 hg; have V2 := zn' E0 hg; have Y1 := zn E1 hg; have Y2 := zn' E1 hg; have n0_ := Aside0.mk (hbox); replace E0 := zk E0 hb; replace E1 := zk E1 hb; replace HB := zb HB hb; have E2 := n0_; clear n0_; clear hb hbox hg) | ((with_reducible refine gate_dst (N := 8) rfl ?_); refine box_event ?hg (N := 8) ?hd (cs := #[.int .i64 0, .int .i64 0, .int .i64 0, .int .i64 0]) (t := 34) ?hr ?_; (case hd => rfl); (case hg => rfl); (case hr => first | (go_simp; done) | (go_simp; rfl)); intro E3 hg w76 hbox hb; have Y3 := zg HB hg; have G4 := zg HB hg; have E5 := zn E0 hg; have E8 := zn' E0 hg; have E6 := zn E1 hg; have E9 := zn' E1 hg; have E7 := zn E2 hg; have G0 := zn' E2 hg; have n0_ := Aside0.mk (hbox); replace E0 := zk E0 hb; replace E1 := zk E1 hb; replace E2 := zk E2 hb; replace HB := zb HB hb; have E4 := n0_; clear n0_; clear hb hbox hg; have E1k := G9.out; have E1l := V0.out; have E1m := V1.out; have E1n := V2.out; have E1o := E5.out; have E1p := E8.out; obtain ⟨E1q, E1r, E1s, E1t, E1u, E1v, E1w, E1x⟩ := zq4 E0) | ((with_reducible refine gate_callee (f := 10) rfl ?_); refine goesL_ (some 12) rfl rfl Try.func10 (by kernel_rfl) rfl #[.agg #[.int .i64 a0_0, .int .i64 a0_1, .int .i64 a0_2, .slice A0_3 l0_3.length c0_3]] rfl (by (try simp only [List.map_toArray, List.map_cons, List.map_nil]); first | done | rfl | (simp only [List.length_drop, List.length_take]; rfl)) ?_; (with_reducible refine (warp_Check.calls k a0_0 a0_1 a0_2 _ _ l0_3 t236 _ ?side1 ?side2 A5.out).mono ?_); (case side1 => repeat (first | exact (Kd.C_below G7.out HB.out) | (with_reducible refine Kd.C_alloc ?_ _) | (with_reducible refine Kd.C_drewN ?_ _) | (with_reducible refine Kd.C_drew ?_))); (case side2 => exact G8.out); rintro e w81 ⟨rfl, hb⟩; refine ⟨_, rfl, ?_⟩; replace E0 := zk E0 hb; replace E1 := zk E1 hb; replace E2 := zk E2 hb; replace E4 := zk E4 hb; replace HB := zb HB hb; (try clear hb); have E1y := E9.out; have E1z := E6.out; have E1A := G0.out; have E1B := E7.out; obtain ⟨E1C, E1D, E1E, E1F, E1G, E1H, E1I, E1J⟩ := zq4 E4))
  refine bodyPost_ret (results_ct rfl _ _ E3 34 #[.int .i64 0, .int .i64 0, .int .i64 0, .int .i64 0] (0, 0) _ rfl (by exact zp E4 rfl) Try.underlying34 rfl (by kernel_rfl)) rfl ?_
  exact ⟨by first | rfl | (simp [errW_none, errW_some] <;> rfl) | (simp [*, errW_none, errW_some] <;> rfl), by exact zbo HB G4⟩

 rw [if_pos c6] at H
 have V3 : (t236 == 0) = true := beq_iff_eq.mpr c6
 have V4 : (t236 != 0) = false := bne_eq_false_iff_eq.mpr c6
 clear c6
 replace H := Option.bind_eq_some_iff.mp H
 obtain ⟨t237, A70, H⟩ := H
 try dsimp only at H
 have A7 := Aside0.mk A70
 clear A70
 by_cases c8 : t237 = true
 rotate_left
 ·replace c8 := Bool.eq_false_iff.mpr c8
  subst c8
  rw [if_neg (show ¬ (false = true) by decide)] at H
  simp only [Option.some.injEq, Prod.mk.injEq] at H
  obtain ⟨rfl, rfl, rfl, rfl, rfl⟩ := H
  go_enter Try.func17, Try.ntmps17
  go_wp2_with (first | ((with_reducible refine gate_dst (N := 4) rfl ?_); refine box_event ?hg (N := 4) ?hd (cs := #[.int .i64 a0_0, .int .i64 a0_1, .int .i64 a0_2, .slice A0_3 l0_3.length c0_3]) (t := 24) ?hr ?_; (case hd => rfl); (case hg => rfl); (case hr => first | (go_simp; done) | (go_simp; rfl)); intro G1 hg w61 hbox hb; have V5 := zg HB hg; have V6 := zg HB hg; have n0_ := Aside0.mk (hbox); replace HB := zb HB hb; have E0 := n0_; clear n0_; clear hb hbox hg) | ((with_reducible refine gate_dst (N := 6) rfl ?_); refine box_event ?hg (N := 6) ?hd (cs := #[.int .i64 a2_0, .int .i64 a2_1, .int .i64 a2_2, .int .i64 a2_3]) (t := 34) ?hr ?_; (case hd => rfl); (case hg => rfl); (case hr => first | (go_simp; done) | (go_simp; rfl)); intro G2 hg w62 hbox hb; have V7 := zg HB hg; have V8 := zg HB hg; have G9 := zn E0 hg; have V0 := zn' E0 hg; have n0_ := Aside0.mk (hbox); replace E0 := zk E0 hb; replace HB := zb HB hb; have E1 := n0_; clear n0_; clear hb hbox hg) | ((with_reducible refine gate_dst (N := 7) rfl ?_); refine box_event ?hg (N := 7) ?hd (cs := #[.int .i64 a3_0, .int .i64 a3_1, .int .i64 a3_2, .int .i64 a3_3]) (t := 34) ?hr ?_; (case hd => rfl); (case hg => rfl); (case hr => first | (go_simp; done) | (go_simp; rfl)); intro G3 hg w63 hbox hb; have V9 := zg HB hg; have Y0 := zg HB hg; have V1 := zn E0 hg; have V2 := zn' E0 hg; have Y1 := zn E1 hg; have Y2 := zn' E1 hg; have n0_ := Aside0.mk (hbox); replace E0 := zk E0 hb; replace E1 := zk E1 hb; replace HB := zb HB hb; have E2 := n0_; clear n0_; clear hb hbox hg) | ((with_reducible refine gate_dst (N := 8) rfl ?_); refine box_event ?hg (N := 8) ?hd (cs := #[.int .i64 0, .int .i64 0, .int .i64 0, .int .i64 0]) (t := 34) ?hr ?_; (case hd => rfl); (case hg => rfl); (case hr => first | (go_simp; done) | (go_simp; rfl)); intro E3 hg w64 hbox hb; have Y3 := zg HB hg; have G4 := zg HB hg; have E5 := zn E0 hg; have E8 := zn' E0 hg; have E6 := zn E1 hg; have E9 := zn' E1 hg; have E7 := zn E2 hg; have G0 := zn' E2 hg; have n0_ := Aside0.mk (hbox); replace E0 := zk E0 hb; replace E1 := zk E1 hb; replace E2 := zk E2 hb; replace HB := zb HB hb; have E4 := n0_; clear n0_; clear hb hbox hg; have E1K := G9.out; have E1L := V0.out; have E1M := V1.out; have E1N := V2.out; have E1O := E5.out; have E1P := E8.out; obtain ⟨E1Q, E1R, E1S, E1T, E1U, E1V, E1W, E1X⟩ := zq4 E0) | ((with_reducible refine gate_callee (f := 10) rfl ?_); refine goesL_ (some 12) rfl rfl Try.func10 (by kernel_rfl) rfl #[.agg #[.int .i64 a0_0, .int .i64 a0_1, .int .i64 a0_2, .slice A0_3 l0_3.length c0_3]] rfl (by (try simp only [List.map_toArray, List.map_cons, List.map_nil]); first | done | rfl | (simp only [List.length_drop, List.length_take]; rfl)) ?_; (with_reducible refine (warp_Check.calls k a0_0 a0_1 a0_2 _ _ l0_3 t236 _ ?side1 ?side2 A5.out).mono ?_); (case side1 => repeat (first | exact (Kd.C_below G7.out HB.out) | (with_reducible refine Kd.C_alloc ?_ _) | (with_reducible refine Kd.C_drewN ?_ _) | (with_reducible refine Kd.C_drew ?_))); (case side2 => exact G8.out); rintro e w69 ⟨rfl, hb⟩; refine ⟨_, rfl, ?_⟩; replace E0 := zk E0 hb; replace E1 := zk E1 hb; replace E2 := zk E2 hb; replace E4 := zk E4 hb; replace HB := zb HB hb; (try clear hb)) | ((with_reducible refine gate_callee (f := 34) rfl ?_); refine goesL_ (some 18) rfl rfl Try.func34 (by kernel_rfl) rfl #[.int .i64 a1] rfl (by (try simp only [List.map_toArray, List.map_cons, List.map_nil]); first | done | rfl | (simp only [List.length_drop, List.length_take]; rfl)) ?_; (with_reducible refine (kernel_Valid.calls a1 false _ A7.out).mono ?_); rintro e w' ⟨rfl, ⟨nd, rfl⟩⟩; refine ⟨_, rfl, ?_⟩; (try (rw [drewN_self w69]; generalize hq_ : World.drewN w69 _ = w69; have n0_ : Aside0 (w69.heap[G1]? = some (.cells #[.int .i64 a0_0, .int .i64 a0_1, .int .i64 a0_2, .slice A0_3 l0_3.length c0_3] 24 (0, 0))) := ⟨by rw [← hq_]; exact (by exact zk0 E0)⟩; have n1_ : Aside0 (w69.heap[G2]? = some (.cells #[.int .i64 a2_0, .int .i64 a2_1, .int .i64 a2_2, .int .i64 a2_3] 34 (0, 0))) := ⟨by rw [← hq_]; exact (by exact zk0 E1)⟩; have n2_ : Aside0 (w69.heap[G3]? = some (.cells #[.int .i64 a3_0, .int .i64 a3_1, .int .i64 a3_2, .int .i64 a3_3] 34 (0, 0))) := ⟨by rw [← hq_]; exact (by exact zk0 E2)⟩; have n3_ : Aside0 (w69.heap[E3]? = some (.cells #[.int .i64 0, .int .i64 0, .int .i64 0, .int .i64 0] 34 (0, 0))) := ⟨by rw [← hq_]; exact (by exact zk0 E4)⟩; have n4_ : Aside0 (Below w.heap.size w w69) := ⟨by rw [← hq_]; exact (by exact zb0 HB)⟩; clear E0 E1 E2 E4 HB hq_; have E0 := n0_; have E1 := n1_; have E2 := n2_; have E4 := n3_; have HB := n4_; clear n0_ n1_ n2_ n3_ n4_)); have E1Y := E9.out; have E1Z := E6.out; have E2a := G0.out; have E2b := E7.out; obtain ⟨E2c, E2d, E2e, E2f, E2g, E2h, E2i, E2j⟩ := zq4 E4))
  refine bodyPost_ret (results_ct rfl _ _ E3 34 #[.int .i64 0, .int .i64 0, .int .i64 0, .int .i64 0] (0, 0) _ rfl (by exact zp E4 rfl) Try.underlying34 rfl (by kernel_rfl)) rfl ?_
  exact ⟨by first | rfl | (simp [errW_none, errW_some] <;> rfl) | (simp [*, errW_none, errW_some] <;> rfl), by exact zbo HB G4⟩
 subst c8
 rw [if_pos rfl] at H
 have HC9 := Aside0.mk H
 clear H
 go_enter Try.func17, Try.ntmps17
 go_upto_region 6 with (first | ((with_reducible refine gate_dst (N := 4) rfl ?_); refine box_event ?hg (N := 4) ?hd (cs := #[.int .i64 a0_0, .int .i64 a0_1, .int .i64 a0_2, .slice A0_3 l0_3.length c0_3]) (t := 24) ?hr ?_; (case hd => rfl); (case hg => rfl); (case hr => first | (go_simp; done) | (go_simp; rfl)); intro G1 hg w10 hbox hb; have V5 := zg HB hg; have V6 := zg HB hg; have n0_ := Aside0.mk (hbox); replace HB := zb HB hb; have E0 := n0_; clear n0_; clear hb hbox hg) | ((with_reducible refine gate_dst (N := 6) rfl ?_); refine box_event ?hg (N := 6) ?hd (cs := #[.int .i64 a2_0, .int .i64 a2_1, .int .i64 a2_2, .int .i64 a2_3]) (t := 34) ?hr ?_; (case hd => rfl); (case hg => rfl); (case hr => first | (go_simp; done) | (go_simp; rfl)); intro G2 hg w11 hbox hb; have V7 := zg HB hg; have V8 := zg HB hg; have G9 := zn E0 hg; have V0 := zn' E0 hg; have n0_ := Aside0.mk (hbox); replace E0 := zk E0 hb; replace HB := zb HB hb; have E1 := n0_; clear n0_; clear hb hbox hg) | ((with_reducible refine gate_dst (N := 7) rfl ?_); refine box_event ?hg (N := 7) ?hd (cs := #[.int .i64 a3_0, .int .i64 a3_1, .int .i64 a3_2, .int .i64 a3_3]) (t := 34) ?hr ?_; (case hd => rfl); (case hg => rfl); (case hr => first | (go_simp; done) | (go_simp; rfl)); intro G3 hg w12 hbox hb; have V9 := zg HB hg; have Y0 := zg HB hg; have V1 := zn E0 hg; have V2 := zn' E0 hg; have Y1 := zn E1 hg; have Y2 := zn' E1 hg; have n0_ := Aside0.mk (hbox); replace E0 := zk E0 hb; replace E1 := zk E1 hb; replace HB := zb HB hb; have E2 := n0_; clear n0_; clear hb hbox hg) | ((with_reducible refine gate_dst (N := 8) rfl ?_); refine box_event ?hg (N := 8) ?hd (cs := #[.int .i64 0, .int .i64 0, .int .i64 0, .int .i64 0]) (t := 34) ?hr ?_; (case hd => rfl); (case hg => rfl); (case hr => first | (go_simp; done) | (go_simp; rfl)); intro E3 hg w13 hbox hb; have Y3 := zg HB hg; have G4 := zg HB hg; have E5 := zn E0 hg; have E8 := zn' E0 hg; have E6 := zn E1 hg; have E9 := zn' E1 hg; have E7 := zn E2 hg; have G0 := zn' E2 hg; have n0_ := Aside0.mk (hbox); replace E0 := zk E0 hb; replace E1 := zk E1 hb; replace E2 := zk E2 hb; replace HB := zb HB hb; have E4 := n0_; clear n0_; clear hb hbox hg; obtain ⟨Z6, Z7, Z8, Z9, J0, J1, J2, J3⟩ := zq4 E0) | ((with_reducible refine gate_callee (f := 10) rfl ?_); refine goesL_ (some 12) rfl rfl Try.func10 (by kernel_rfl) rfl #[.agg #[.int .i64 a0_0, .int .i64 a0_1, .int .i64 a0_2, .slice A0_3 l0_3.length c0_3]] rfl (by (try simp only [List.map_toArray, List.map_cons, List.map_nil]); first | done | rfl | (simp only [List.length_drop, List.length_take]; rfl)) ?_; (with_reducible refine (warp_Check.calls k a0_0 a0_1 a0_2 _ _ l0_3 t236 _ ?side1 ?side2 A5.out).mono ?_); (case side1 => repeat (first | exact (Kd.C_below G7.out HB.out) | (with_reducible refine Kd.C_alloc ?_ _) | (with_reducible refine Kd.C_drewN ?_ _) | (with_reducible refine Kd.C_drew ?_))); (case side2 => exact G8.out); rintro e w15 ⟨rfl, hb⟩; refine ⟨_, rfl, ?_⟩; replace E0 := zk E0 hb; replace E1 := zk E1 hb; replace E2 := zk E2 hb; replace E4 := zk E4 hb; replace HB := zb HB hb; (try clear hb); (try clear hb2); (try clear hk); (try clear hi)) | ((with_reducible refine gate_callee (f := 34) rfl ?_); refine goesL_ (some 18) rfl rfl Try.func34 (by kernel_rfl) rfl #[.int .i64 a1] rfl (by (try simp only [List.map_toArray, List.map_cons, List.map_nil]); first | done | rfl | (simp only [List.length_drop, List.length_take]; rfl)) ?_; (with_reducible refine (kernel_Valid.calls a1 true _ A7.out).mono ?_); rintro e w' ⟨rfl, ⟨nd, rfl⟩⟩; refine ⟨_, rfl, ?_⟩))
 (try simp only [Act.put, sA, sB, sC])
 go_cut [38] (fun v38 wc => ∃ (kq : Nat) (x38_8 : Bool), v38 = .bool x38_8 ∧ Aside0 (warp_Needs.j0 kq a1 x38_8 a0_0 a0_1 a0_2 l0_3 a2_0 a2_1 a2_2 a2_3 a3_0 a3_1 a3_2 a3_3 = some (r1, r2, r3, r4, r5)) ∧ Aside0 (kq ≤ k) ∧ Aside0 (wc.heap[G1]? = some (.cells #[.int .i64 a0_0, .int .i64 a0_1, .int .i64 a0_2, (.slice A0_3 l0_3.length c0_3)] 24 (0, 0))) ∧ Aside0 (wc.heap[G2]? = some (.cells #[.int .i64 a2_0, .int .i64 a2_1, .int .i64 a2_2, .int .i64 a2_3] 34 (0, 0))) ∧ Aside0 (wc.heap[G3]? = some (.cells #[.int .i64 a3_0, .int .i64 a3_1, .int .i64 a3_2, .int .i64 a3_3] 34 (0, 0))) ∧ Aside0 (wc.heap[E3]? = some (.cells #[.int .i64 0, .int .i64 0, .int .i64 0, .int .i64 0] 34 (0, 0))) ∧ Aside0 (Below w.heap.size w wc))
 case first =>
  have H := HC9.out
  clear HC9
  replace H := Option.bind_eq_some_iff.mp H
  obtain ⟨t238, A160, H⟩ := H
  try dsimp only at H
  have A16 := Aside0.mk A160
  clear A160
  by_cases c17 : t238 = true
  rotate_left
  ·replace c17 := Bool.eq_false_iff.mpr c17
   subst c17
   rw [if_neg (show ¬ (false = true) by decide)] at H
   have H' := Aside0.mk H
   clear H
   obtain ⟨J4, J5, J6, J7, J8, J9, L0, L1⟩ := zq4 E1
   go_wp2_with (first | ((with_reducible refine gate_callee (f := 35) rfl ?_); refine goesL_ (some 22) rfl rfl Try.func35 (by kernel_rfl) rfl #[.agg #[.int .i64 a2_0, .int .i64 a2_1, .int .i64 a2_2, .int .i64 a2_3]] rfl (by (try simp only [List.map_toArray, List.map_cons, List.map_nil]); first | done | rfl | (simp only [List.length_drop, List.length_take]; rfl)) ?_; (with_reducible refine (rect_Valid.calls a2_0 a2_1 a2_2 a2_3 false _ A16.out).mono ?_); rintro e w43 ⟨rfl, hb⟩; refine ⟨_, rfl, ?_⟩; replace E0 := zk E0 hb; replace E1 := zk E1 hb; replace E2 := zk E2 hb; replace E4 := zk E4 hb; replace HB := zb HB hb; (try clear hb)))
   go_meet
   case rel => exact ⟨_, (true), (by first | rfl | (simp; done) | (simp [*]; done)), H', ⟨by first | omega | exact Nat.le_refl _⟩, ⟨by exact zk0 E0⟩, ⟨by exact zk0 E1⟩, ⟨by exact zk0 E2⟩, ⟨by exact zk0 E4⟩, ⟨by exact zb0 HB⟩⟩
  subst c17
  rw [if_pos rfl] at H
  replace H := Option.bind_eq_some_iff.mp H
  obtain ⟨t239, A180, H⟩ := H
  try dsimp only at H
  have A18 := Aside0.mk A180
  clear A180
  by_cases c19 : t239 = true
  rotate_left
  ·replace c19 := Bool.eq_false_iff.mpr c19
   subst c19
   rw [if_neg (show ¬ (false = true) by decide)] at H
   have H' := Aside0.mk H
   clear H
   obtain ⟨L2, L3, L4, L5, L6, L7, L8, L9⟩ := zq4 E1
   go_wp2_with (first | ((with_reducible refine gate_callee (f := 35) rfl ?_); refine goesL_ (some 22) rfl rfl Try.func35 (by kernel_rfl) rfl #[.agg #[.int .i64 a2_0, .int .i64 a2_1, .int .i64 a2_2, .int .i64 a2_3]] rfl (by (try simp only [List.map_toArray, List.map_cons, List.map_nil]); first | done | rfl | (simp only [List.length_drop, List.length_take]; rfl)) ?_; (with_reducible refine (rect_Valid.calls a2_0 a2_1 a2_2 a2_3 true _ A16.out).mono ?_); rintro e w39 ⟨rfl, hb⟩; refine ⟨_, rfl, ?_⟩; replace E0 := zk E0 hb; replace E1 := zk E1 hb; replace E2 := zk E2 hb; replace E4 := zk E4 hb; replace HB := zb HB hb; (try clear hb); obtain ⟨Q0, Q1, Q2, Q3, Q4, Q5, Q6, Q7⟩ := zq4 E2) | (go_at_call 35; (with_reducible refine (rect_Valid.calls a3_0 a3_1 a3_2 a3_3 false _ A18.out).mono ?_); rintro e w41 ⟨rfl, hb⟩; replace E0 := zk E0 hb; replace E1 := zk E1 hb; replace E2 := zk E2 hb; replace E4 := zk E4 hb; replace HB := zb HB hb; (try clear hb)))
   go_meet
   case rel => exact ⟨_, (true), (by first | rfl | (simp; done) | (simp [*]; done)), H', ⟨by first | omega | exact Nat.le_refl _⟩, ⟨by exact zk0 E0⟩, ⟨by exact zk0 E1⟩, ⟨by exact zk0 E2⟩, ⟨by exact zk0 E4⟩, ⟨by exact zb0 HB⟩⟩
  subst c19
  rw [if_pos rfl] at H
  replace H := Option.bind_eq_some_iff.mp H
  obtain ⟨t240, A200, H⟩ := H
  try dsimp only at H
  have A20 := Aside0.mk A200
  clear A200
  by_cases c21 : t240 = true
  ·subst c21
   rw [if_pos rfl] at H
   have H' := Aside0.mk H
   clear H
   obtain ⟨Q8, Q9, E0a, E0b, E0c, E0d, E0e, E0f⟩ := zq4 E1
   go_wp2_with (first | ((with_reducible refine gate_callee (f := 35) rfl ?_); refine goesL_ (some 22) rfl rfl Try.func35 (by kernel_rfl) rfl #[.agg #[.int .i64 a2_0, .int .i64 a2_1, .int .i64 a2_2, .int .i64 a2_3]] rfl (by (try simp only [List.map_toArray, List.map_cons, List.map_nil]); first | done | rfl | (simp only [List.length_drop, List.length_take]; rfl)) ?_; (with_reducible refine (rect_Valid.calls a2_0 a2_1 a2_2 a2_3 true _ A16.out).mono ?_); rintro e w23 ⟨rfl, hb⟩; refine ⟨_, rfl, ?_⟩; replace E0 := zk E0 hb; replace E1 := zk E1 hb; replace E2 := zk E2 hb; replace E4 := zk E4 hb; replace HB := zb HB hb; (try clear hb); obtain ⟨E0g, E0h, E0i, E0j, E0k, E0l, E0m, E0n⟩ := zq4 E2) | (go_at_call 35; (with_reducible refine (rect_Valid.calls a3_0 a3_1 a3_2 a3_3 true _ A18.out).mono ?_); rintro e w25 ⟨rfl, hb⟩; replace E0 := zk E0 hb; replace E1 := zk E1 hb; replace E2 := zk E2 hb; replace E4 := zk E4 hb; replace HB := zb HB hb; (try clear hb); obtain ⟨E0o, E0p, E0q, E0r, E0s, E0t, E0u, E0v⟩ := zq4 E1) | (go_at_call 36; (with_reducible refine (rect_Empty.calls a2_0 a2_1 a2_2 a2_3 true _ A20.out).mono ?_); rintro e w27 ⟨rfl, hb⟩; replace E0 := zk E0 hb; replace E1 := zk E1 hb; replace E2 := zk E2 hb; replace E4 := zk E4 hb; replace HB := zb HB hb; (try clear hb)))
   go_meet
   case rel => exact ⟨_, (true), (by first | rfl | (simp; done) | (simp [*]; done)), H', ⟨by first | omega | exact Nat.le_refl _⟩, ⟨by exact zk0 E0⟩, ⟨by exact zk0 E1⟩, ⟨by exact zk0 E2⟩, ⟨by exact zk0 E4⟩, ⟨by exact zb0 HB⟩⟩
  replace c21 := Bool.eq_false_iff.mpr c21
  subst c21
  rw [if_neg (show ¬ (false = true) by decide)] at H
  replace H := Option.bind_eq_some_iff.mp H
  obtain ⟨t241, A280, H⟩ := H
  try dsimp only at H
  have A28 := Aside0.mk A280
  clear A280
  have H' := Aside0.mk H
  clear H
  obtain ⟨E0w, E0x, E0y, E0z, E0A, E0B, E0C, E0D⟩ := zq4 E1
  go_wp2_with (first | ((with_reducible refine gate_callee (f := 35) rfl ?_); refine goesL_ (some 22) rfl rfl Try.func35 (by kernel_rfl) rfl #[.agg #[.int .i64 a2_0, .int .i64 a2_1, .int .i64 a2_2, .int .i64 a2_3]] rfl (by (try simp only [List.map_toArray, List.map_cons, List.map_nil]); first | done | rfl | (simp only [List.length_drop, List.length_take]; rfl)) ?_; (with_reducible refine (rect_Valid.calls a2_0 a2_1 a2_2 a2_3 true _ A16.out).mono ?_); rintro e w30 ⟨rfl, hb⟩; refine ⟨_, rfl, ?_⟩; replace E0 := zk E0 hb; replace E1 := zk E1 hb; replace E2 := zk E2 hb; replace E4 := zk E4 hb; replace HB := zb HB hb; (try clear hb); obtain ⟨E0E, E0F, E0G, E0H, E0I, E0J, E0K, E0L⟩ := zq4 E2) | (go_at_call 35; (with_reducible refine (rect_Valid.calls a3_0 a3_1 a3_2 a3_3 true _ A18.out).mono ?_); rintro e w32 ⟨rfl, hb⟩; replace E0 := zk E0 hb; replace E1 := zk E1 hb; replace E2 := zk E2 hb; replace E4 := zk E4 hb; replace HB := zb HB hb; (try clear hb); obtain ⟨E0M, E0N, E0O, E0P, E0Q, E0R, E0S, E0T⟩ := zq4 E1) | (go_at_call 36; (with_reducible refine (rect_Empty.calls a2_0 a2_1 a2_2 a2_3 false _ A20.out).mono ?_); rintro e w34 ⟨rfl, hb⟩; replace E0 := zk E0 hb; replace E1 := zk E1 hb; replace E2 := zk E2 hb; replace E4 := zk E4 hb; replace HB := zb HB hb; (try clear hb); obtain ⟨E0U, E0V, E0W, E0X, E0Y, E0Z, E1a, E1b⟩ := zq4 E1; obtain ⟨E1c, E1d, E1e, E1f, E1g, E1h, E1i, E1j⟩ := zq4 E2) | (go_at_call 25; (with_reducible refine (rect_Within.calls a2_0 a2_1 a2_2 a2_3 a3_0 a3_1 a3_2 a3_3 t241 _ A28.out).mono ?_); rintro e w37 ⟨rfl, hb⟩; replace E0 := zk E0 hb; replace E1 := zk E1 hb; replace E2 := zk E2 hb; replace E4 := zk E4 hb; replace HB := zb HB hb; (try clear hb)))
  go_meet
  case rel => exact ⟨_, (!t241), (by first | rfl | (simp; done) | (simp [*]; done)), H', ⟨by first | omega | exact Nat.le_refl _⟩, ⟨by exact zk0 E0⟩, ⟨by exact zk0 E1⟩, ⟨by exact zk0 E2⟩, ⟨by exact zk0 E4⟩, ⟨by exact zb0 HB⟩⟩
 case rest =>
  clear HC9
  try clear c1
  try clear c2
  try clear p2
  try clear c3
  try clear q4
  try clear c6
  try clear V3
  try clear V4
  try clear c8
  try clear c10
  try clear c17
  try clear c19
  try clear c21
  try clear c34
  try clear c35
  try clear Z6
  try clear Z7
  try clear Z8
  try clear Z9
  try clear Q8
  try clear Q9
  try clear E0a
  try clear E0b
  try clear E0g
  try clear E0h
  try clear E0i
  try clear E0j
  try clear E0o
  try clear E0p
  try clear E0q
  try clear E0r
  try clear E0w
  try clear E0x
  try clear E0y
  try clear E0z
  try clear E0E
  try clear E0F
  try clear E0G
  try clear E0H
  try clear E0M
  try clear E0N
  try clear E0O
  try clear E0P
  try clear E0U
  try clear E0V
  try clear E0W
  try clear E0X
  try clear E1c
  try clear E1d
  try clear E1e
  try clear E1f
  try clear L2
  try clear L3
  try clear L4
  try clear L5
  try clear Q0
  try clear Q1
  try clear Q2
  try clear Q3
  try clear J4
  try clear J5
  try clear J6
  try clear J7
  try clear J0
  try clear J1
  try clear J2
  try clear J3
  try clear E0c
  try clear E0d
  try clear E0e
  try clear E0f
  try clear E0k
  try clear E0l
  try clear E0m
  try clear E0n
  try clear E0s
  try clear E0t
  try clear E0u
  try clear E0v
  try clear E0A
  try clear E0B
  try clear E0C
  try clear E0D
  try clear E0I
  try clear E0J
  try clear E0K
  try clear E0L
  try clear E0Q
  try clear E0R
  try clear E0S
  try clear E0T
  try clear E0Y
  try clear E0Z
  try clear E1a
  try clear E1b
  try clear E1g
  try clear E1h
  try clear E1i
  try clear E1j
  try clear L6
  try clear L7
  try clear L8
  try clear L9
  try clear Q4
  try clear Q5
  try clear Q6
  try clear Q7
  try clear J8
  try clear J9
  try clear L0
  try clear L1
  obtain ⟨kq, x38_8, rfl, HA, HJ8, E0, E1, E2, E4, HB⟩ := hcut
  cases kq with
  | zero => exact absurd HA.out (by simp [warp_Needs.j0])
  | succ kj8 =>
   have H := HA.out
   clear HA
   simp only [warp_Needs.j0] at H
   by_cases c44 : x38_8 = true
   ·subst c44
    rw [if_pos rfl] at H
    simp only [Option.some.injEq, Prod.mk.injEq] at H
    obtain ⟨rfl, rfl, rfl, rfl, rfl⟩ := H
    have E2k := E8.out
    have E2l := E5.out
    have E2m := E9.out
    have E2n := E6.out
    have E2o := G0.out
    have E2p := E7.out
    obtain ⟨E2q, E2r, E2s, E2t, E2u, E2v, E2w, E2x⟩ := zq4 E4
    go_wp2
    refine bodyPost_ret (results_ct rfl _ _ E3 34 #[.int .i64 0, .int .i64 0, .int .i64 0, .int .i64 0] (0, 0) _ rfl (by exact zp E4 rfl) Try.underlying34 rfl (by kernel_rfl)) rfl ?_
    exact ⟨by first | rfl | (simp [errW_none, errW_some] <;> rfl) | (simp [*, errW_none, errW_some] <;> rfl), by exact zbo HB G4⟩
   replace c44 := Bool.eq_false_iff.mpr c44
   subst c44
   rw [if_neg (show ¬ (false = true) by decide)] at H
   replace H := Option.bind_eq_some_iff.mp H
   obtain ⟨t242, A490, H⟩ := H
   try dsimp only at H
   have A49 := Aside0.mk A490
   clear A490
   replace H := Option.bind_eq_some_iff.mp H
   obtain ⟨t243, A500, H⟩ := H
   try dsimp only at H
   have A50 := Aside0.mk A500
   clear A500
   replace H := Option.bind_eq_some_iff.mp H
   obtain ⟨⟨t244, t245, t246, t247⟩, A510, H⟩ := H
   try dsimp only at H
   have A51 := Aside0.mk A510
   clear A510
   replace H := Option.bind_eq_some_iff.mp H
   obtain ⟨⟨t248, t249, t250, t251⟩, A520, H⟩ := H
   try dsimp only at H
   have A52 := Aside0.mk A520
   clear A520
   simp only [Option.some.injEq, Prod.mk.injEq] at H
   obtain ⟨rfl, rfl, rfl, rfl, rfl⟩ := H
   try go_wp2
   replace E0 := zkd E0
   replace E1 := zkd E1
   replace E2 := zkd E2
   replace E4 := zkd E4
   replace HB := zbd HB
   refine start_ (n := 12) (S := fun w' => w'.cell? ⟨G2, 0, none⟩ = some (.int .i64 a2_0) ∧ w'.cell? ⟨G2, 1, none⟩ = some (.int .i64 a2_1) ∧ w'.cell? ⟨G2, 2, none⟩ = some (.int .i64 a2_2) ∧ w'.cell? ⟨G2, 3, none⟩ = some (.int .i64 a2_3) ∧ w'.cell? ⟨G1, 0, none⟩ = some (.int .i64 a0_0) ∧ w'.cell? ⟨G1, 1, none⟩ = some (.int .i64 a0_1) ∧ w'.cell? ⟨G1, 2, none⟩ = some (.int .i64 a0_2) ∧ w'.cell? ⟨G1, 3, none⟩ = some (.slice A0_3 l0_3.length c0_3) ∧ w'.cell? ⟨G3, 0, none⟩ = some (.int .i64 a3_0) ∧ w'.cell? ⟨G3, 1, none⟩ = some (.int .i64 a3_1) ∧ w'.cell? ⟨G3, 2, none⟩ = some (.int .i64 a3_2) ∧ w'.cell? ⟨G3, 3, none⟩ = some (.int .i64 a3_3)) (ds := []) (bs 12 0) (by kernel_rfl) rfl rfl ⟨(blk_cell E1.out 0).trans rfl, (blk_cell E1.out 1).trans rfl, (blk_cell E1.out 2).trans rfl, (blk_cell E1.out 3).trans rfl, (blk_cell E0.out 0).trans rfl, (blk_cell E0.out 1).trans rfl, (blk_cell E0.out 2).trans rfl, (blk_cell E0.out 3).trans rfl, (blk_cell E2.out 0).trans rfl, (blk_cell E2.out 1).trans rfl, (blk_cell E2.out 2).trans rfl, (blk_cell E2.out 3).trans rfl⟩ (fun hHeld => ?_); refine with_tabW warp_Needs.tab8 warp_Needs.bits8 (fun HT_ HW_ => ?_)
   generalize wc.drew = w53 at E0 E1 E2 E4 HB hHeld ⊢
   refine pure_ (i := 3) (N := some 43) (v := ?_) (a' := ?_) (bs 12 8) rfl rfl (any_of HT_.out (by kernel_rfl)) (fun _ _ _ h => h) (Or.inl ⟨by rfl, ?_⟩) ?_ ?_
   rotate_left
   ·intro w'
    go_simp
    with_reducible rfl
   rotate_left
   ·simp only [Act.put, sA, sB, sC, i64_w, i32_w]
    rfl
   refine take_ (i := 0) (N := some 40) (v := ?_) (a' := ?_) (bs 12 9) rfl rfl (take_ofW HT_.out HW_.out (by kernel_rfl)) (fun _ _ _ h => h) (Or.inl ⟨by rfl, ?_⟩) hHeld ?_ ?_
   rotate_left
   ·rintro w' ⟨s0, s1, s2, s3, s4, s5, s6, s7, s8, s9, s10, s11⟩
    go_simp
    with_reducible rfl
   rotate_left
   ·simp only [Act.put, sA, sB, sC, i64_w, i32_w]
    rfl
   refine take_ (i := 1) (N := some 41) (v := ?_) (a' := ?_) (bs 12 11) rfl rfl (take_ofW HT_.out HW_.out (by kernel_rfl)) (fun _ _ _ h => h) (Or.inl ⟨by rfl, ?_⟩) hHeld ?_ ?_
   rotate_left
   ·rintro w' ⟨s0, s1, s2, s3, s4, s5, s6, s7, s8, s9, s10, s11⟩
    go_simp
    with_reducible rfl
   rotate_left
   ·simp only [Act.put, sA, sB, sC, i64_w, i32_w]
    rfl
   refine take_ (i := 8) (N := some 48) (v := ?_) (a' := ?_) (bs 12 267) rfl rfl (take_ofW HT_.out HW_.out (by kernel_rfl)) (fun _ _ _ h => h) (Or.inl ⟨by rfl, ?_⟩) hHeld ?_ ?_
   rotate_left
   ·rintro w' ⟨s0, s1, s2, s3, s4, s5, s6, s7, s8, s9, s10, s11⟩
    go_simp
    with_reducible rfl
   rotate_left
   ·simp only [Act.put, sA, sB, sC, i64_w, i32_w]
    rfl
   refine one_ (i := 2) (N := some 42) (bs 12 271) rfl rfl (one_of HT_.out (by kernel_rfl)) (by decide) (fun K hK => ?_)
   refine goes_ Try.func14 (by kernel_rfl) rfl #[.agg #[.int .i64 a0_0, .int .i64 a0_1, .int .i64 a0_2, .slice A0_3 l0_3.length c0_3]] (by rfl) rfl rfl (by (try simp only [List.map_toArray, List.map_cons, List.map_nil]); first | done | rfl | (simp only [List.length_drop, List.length_take]; rfl)) ?_
   with_reducible refine (warp_Reach.calls kj8 a0_0 a0_1 a0_2 _ _ l0_3 t242 _ ?side1 ?side2 A49.out).mono ?_
   (case side1 => repeat (first | exact (Kd.C_below G7.out HB.out) | (with_reducible refine Kd.C_alloc ?_ _) | (with_reducible refine Kd.C_drewN ?_ _) | (with_reducible refine Kd.C_drew ?_)))
   (case side2 => exact G8.out)
   rintro e w54 ⟨rfl, hb⟩
   refine ⟨_, rfl, ?_⟩
   replace E0 := zk E0 hb
   replace E1 := zk E1 hb
   replace E2 := zk E2 hb
   replace E4 := zk E4 hb
   replace HB := zb HB hb
   (try clear hb)
   (try clear hb2)
   (try clear hk)
   (try clear hi)
   refine hK.out _ _ ⟨(blk_cell E1.out 0).trans rfl, (blk_cell E1.out 1).trans rfl, (blk_cell E1.out 2).trans rfl, (blk_cell E1.out 3).trans rfl, (blk_cell E0.out 0).trans rfl, (blk_cell E0.out 1).trans rfl, (blk_cell E0.out 2).trans rfl, (blk_cell E0.out 3).trans rfl, (blk_cell E2.out 0).trans rfl, (blk_cell E2.out 1).trans rfl, (blk_cell E2.out 2).trans rfl, (blk_cell E2.out 3).trans rfl⟩ (fun hHeld => ?_)
   clear hK K
   refine norm_ (a' := ?_) ?_ ?_
   rotate_left
   ·show Act.put _ (some 42) _ = _
    simp only [Act.put, sA, sB, sC, i64_w, i32_w]
    rfl
   refine one_ (i := 4) (N := some 44) (bs 12 287) rfl rfl (one_of HT_.out (by kernel_rfl)) (by decide) (fun K hK => ?_)
   refine goes_ Try.func39 (by kernel_rfl) rfl #[.int .i64 a1] (by rfl) rfl rfl (by (try simp only [List.map_toArray, List.map_cons, List.map_nil]); first | done | rfl | (simp only [List.length_drop, List.length_take]; rfl)) ?_
   with_reducible refine (kernel_Support.calls a1 t243 _ A50.out).mono ?_
   rintro e w' ⟨rfl, ⟨nd, rfl⟩⟩
   refine ⟨_, rfl, ?_⟩
   refine hK.out _ _ ⟨(blk_cell E1.out 0).trans rfl, (blk_cell E1.out 1).trans rfl, (blk_cell E1.out 2).trans rfl, (blk_cell E1.out 3).trans rfl, (blk_cell E0.out 0).trans rfl, (blk_cell E0.out 1).trans rfl, (blk_cell E0.out 2).trans rfl, (blk_cell E0.out 3).trans rfl, (blk_cell E2.out 0).trans rfl, (blk_cell E2.out 1).trans rfl, (blk_cell E2.out 2).trans rfl, (blk_cell E2.out 3).trans rfl⟩ (fun hHeld => ?_)
   clear hK K
   refine norm_ (a' := ?_) ?_ ?_
   rotate_left
   ·show Act.put _ (some 44) _ = _
    simp only [Act.put, sA, sB, sC, i64_w, i32_w]
    rfl
   refine pure_ (i := 5) (N := some 45) (v := ?_) (a' := ?_) (bs 12 319) rfl rfl (any_of HT_.out (by kernel_rfl)) (fun _ _ _ h => h) (Or.inl ⟨by rfl, ?_⟩) ?_ ?_
   rotate_left
   ·intro w'
    go_simp
    with_reducible rfl
   rotate_left
   ·simp only [Act.put, sA, sB, sC, i64_w, i32_w]
    rfl
   refine pure_ (i := 6) (N := some 46) (v := ?_) (a' := ?_) (bs 12 383) rfl rfl (any_of HT_.out (by kernel_rfl)) (fun _ _ _ h => h) (Or.inl ⟨by rfl, ?_⟩) ?_ ?_
   rotate_left
   ·intro w'
    go_simp
    with_reducible rfl
   rotate_left
   ·simp only [Act.put, sA, sB, sC, i64_w, i32_w]
    rfl
   refine one_ (i := 7) (N := some 47) (bs 12 511) rfl rfl (one_of HT_.out (by kernel_rfl)) (by decide) (fun K hK => ?_)
   refine goes_ Try.func38 (by kernel_rfl) rfl #[.agg #[.int .i64 a2_0, .int .i64 a2_1, .int .i64 a2_2, .int .i64 a2_3], .int .i64 (wrap64 ((wrap64 (t242 + t243)) + 1))] (by rfl) rfl rfl (by (try simp only [List.map_toArray, List.map_cons, List.map_nil]); first | done | rfl | (simp only [List.length_drop, List.length_take]; rfl)) ?_
   with_reducible refine (rect_Grow.calls kj8 a2_0 a2_1 a2_2 a2_3 (wrap64 ((wrap64 (t242 + t243)) + 1)) t244 t245 t246 t247 _ A51.out).mono ?_
   rintro e w55 ⟨rfl, hb⟩
   refine ⟨_, rfl, ?_⟩
   replace E0 := zk E0 hb
   replace E1 := zk E1 hb
   replace E2 := zk E2 hb
   replace E4 := zk E4 hb
   replace HB := zb HB hb
   (try clear hb)
   (try clear hb2)
   (try clear hk)
   (try clear hi)
   refine hK.out _ _ ⟨(blk_cell E1.out 0).trans rfl, (blk_cell E1.out 1).trans rfl, (blk_cell E1.out 2).trans rfl, (blk_cell E1.out 3).trans rfl, (blk_cell E0.out 0).trans rfl, (blk_cell E0.out 1).trans rfl, (blk_cell E0.out 2).trans rfl, (blk_cell E0.out 3).trans rfl, (blk_cell E2.out 0).trans rfl, (blk_cell E2.out 1).trans rfl, (blk_cell E2.out 2).trans rfl, (blk_cell E2.out 3).trans rfl⟩ (fun hHeld => ?_)
   clear hK K
   refine norm_ (a' := ?_) ?_ ?_
   rotate_left
   ·show Act.put _ (some 47) _ = _
    simp only [Act.put, sA, sB, sC, i64_w, i32_w]
    rfl
   refine one_ (i := 9) (N := some 49) (bs 12 1023) rfl rfl (one_of HT_.out (by kernel_rfl)) (by decide) (fun K hK => ?_)
   refine goes_ Try.func37 (by kernel_rfl) rfl #[.agg #[.int .i64 t244, .int .i64 t245, .int .i64 t246, .int .i64 t247], .agg #[.int .i64 a3_0, .int .i64 a3_1, .int .i64 a3_2, .int .i64 a3_3]] (by rfl) rfl rfl (by (try simp only [List.map_toArray, List.map_cons, List.map_nil]); first | done | rfl | (simp only [List.length_drop, List.length_take]; rfl)) ?_
   with_reducible refine (rect_Meet.calls t244 t245 t246 t247 a3_0 a3_1 a3_2 a3_3 t248 t249 t250 t251 _ A52.out).mono ?_
   rintro e w56 ⟨rfl, hb⟩
   refine ⟨_, rfl, ?_⟩
   replace E0 := zk E0 hb
   replace E1 := zk E1 hb
   replace E2 := zk E2 hb
   replace E4 := zk E4 hb
   replace HB := zb HB hb
   (try clear hb)
   (try clear hb2)
   (try clear hk)
   (try clear hi)
   refine hK.out _ _ ⟨(blk_cell E1.out 0).trans rfl, (blk_cell E1.out 1).trans rfl, (blk_cell E1.out 2).trans rfl, (blk_cell E1.out 3).trans rfl, (blk_cell E0.out 0).trans rfl, (blk_cell E0.out 1).trans rfl, (blk_cell E0.out 2).trans rfl, (blk_cell E0.out 3).trans rfl, (blk_cell E2.out 0).trans rfl, (blk_cell E2.out 1).trans rfl, (blk_cell E2.out 2).trans rfl, (blk_cell E2.out 3).trans rfl⟩ (fun hHeld => ?_)
   clear hK K
   refine norm_ (a' := ?_) ?_ ?_
   rotate_left
   ·show Act.put _ (some 49) _ = _
    simp only [Act.put, sA, sB, sC, i64_w, i32_w]
    rfl
   refine one_ (i := 10) (N := none) (bs 12 2047) rfl rfl (one_of HT_.out (by kernel_rfl)) (by decide) (fun K hK => ?_)
   have hs57 : w56.cell? ⟨E3, 0, none⟩ = some (.int .i64 0) := (blk_cell E4.out 0).trans rfl
   have hfs57 := blk_frozen E4.out 0
   have E2y := E5.out
   have E2z := E6.out
   have E2A := E7.out
   have E2B := E8.out
   have E2C := E9.out
   have E2D := G0.out
   have hs58 : w56.cell? ⟨E3, 1, none⟩ = some (.int .i64 0) := (blk_cell E4.out 1).trans rfl
   have hfs58 := blk_frozen E4.out 1
   have E2E := E5.out
   have E2F := E6.out
   have E2G := E7.out
   have E2H := E8.out
   have E2I := E9.out
   have E2J := G0.out
   have hs59 : w56.cell? ⟨E3, 2, none⟩ = some (.int .i64 0) := (blk_cell E4.out 2).trans rfl
   have hfs59 := blk_frozen E4.out 2
   have E2K := E5.out
   have E2L := E6.out
   have E2M := E7.out
   have E2N := E8.out
   have E2O := E9.out
   have E2P := G0.out
   have hs60 : w56.cell? ⟨E3, 3, none⟩ = some (.int .i64 0) := (blk_cell E4.out 3).trans rfl
   have hfs60 := blk_frozen E4.out 3
   have E2Q := E5.out
   have E2R := E6.out
   have E2S := E7.out
   have E2T := E8.out
   have E2U := E9.out
   have E2V := G0.out
   refine skip_ (w1 := ?_) (by rfl) rfl ?_ ?_
   rotate_left
   ·go_simp
    rfl
   refine hK.out _ _ ⟨((cell_far (p := ⟨E3, _, none⟩) E6.out _).trans (((cell_far (p := ⟨E3, _, none⟩) E6.out _).trans (((cell_far (p := ⟨E3, _, none⟩) E6.out _).trans (((cell_far (p := ⟨E3, _, none⟩) E6.out _).trans (hHeld.1)))))))), ((cell_far (p := ⟨E3, _, none⟩) E6.out _).trans (((cell_far (p := ⟨E3, _, none⟩) E6.out _).trans (((cell_far (p := ⟨E3, _, none⟩) E6.out _).trans (((cell_far (p := ⟨E3, _, none⟩) E6.out _).trans (hHeld.2.1)))))))), ((cell_far (p := ⟨E3, _, none⟩) E6.out _).trans (((cell_far (p := ⟨E3, _, none⟩) E6.out _).trans (((cell_far (p := ⟨E3, _, none⟩) E6.out _).trans (((cell_far (p := ⟨E3, _, none⟩) E6.out _).trans (hHeld.2.2.1)))))))), ((cell_far (p := ⟨E3, _, none⟩) E6.out _).trans (((cell_far (p := ⟨E3, _, none⟩) E6.out _).trans (((cell_far (p := ⟨E3, _, none⟩) E6.out _).trans (((cell_far (p := ⟨E3, _, none⟩) E6.out _).trans (hHeld.2.2.2.1)))))))), ((cell_far (p := ⟨E3, _, none⟩) E5.out _).trans (((cell_far (p := ⟨E3, _, none⟩) E5.out _).trans (((cell_far (p := ⟨E3, _, none⟩) E5.out _).trans (((cell_far (p := ⟨E3, _, none⟩) E5.out _).trans (hHeld.2.2.2.2.1)))))))), ((cell_far (p := ⟨E3, _, none⟩) E5.out _).trans (((cell_far (p := ⟨E3, _, none⟩) E5.out _).trans (((cell_far (p := ⟨E3, _, none⟩) E5.out _).trans (((cell_far (p := ⟨E3, _, none⟩) E5.out _).trans (hHeld.2.2.2.2.2.1)))))))), ((cell_far (p := ⟨E3, _, none⟩) E5.out _).trans (((cell_far (p := ⟨E3, _, none⟩) E5.out _).trans (((cell_far (p := ⟨E3, _, none⟩) E5.out _).trans (((cell_far (p := ⟨E3, _, none⟩) E5.out _).trans (hHeld.2.2.2.2.2.2.1)))))))), ((cell_far (p := ⟨E3, _, none⟩) E5.out _).trans (((cell_far (p := ⟨E3, _, none⟩) E5.out _).trans (((cell_far (p := ⟨E3, _, none⟩) E5.out _).trans (((cell_far (p := ⟨E3, _, none⟩) E5.out _).trans (hHeld.2.2.2.2.2.2.2.1)))))))), ((cell_far (p := ⟨E3, _, none⟩) E7.out _).trans (((cell_far (p := ⟨E3, _, none⟩) E7.out _).trans (((cell_far (p := ⟨E3, _, none⟩) E7.out _).trans (((cell_far (p := ⟨E3, _, none⟩) E7.out _).trans (hHeld.2.2.2.2.2.2.2.2.1)))))))), ((cell_far (p := ⟨E3, _, none⟩) E7.out _).trans (((cell_far (p := ⟨E3, _, none⟩) E7.out _).trans (((cell_far (p := ⟨E3, _, none⟩) E7.out _).trans (((cell_far (p := ⟨E3, _, none⟩) E7.out _).trans (hHeld.2.2.2.2.2.2.2.2.2.1)))))))), ((cell_far (p := ⟨E3, _, none⟩) E7.out _).trans (((cell_far (p := ⟨E3, _, none⟩) E7.out _).trans (((cell_far (p := ⟨E3, _, none⟩) E7.out _).trans (((cell_far (p := ⟨E3, _, none⟩) E7.out _).trans (hHeld.2.2.2.2.2.2.2.2.2.2.1)))))))), ((cell_far (p := ⟨E3, _, none⟩) E7.out _).trans (((cell_far (p := ⟨E3, _, none⟩) E7.out _).trans (((cell_far (p := ⟨E3, _, none⟩) E7.out _).trans (((cell_far (p := ⟨E3, _, none⟩) E7.out _).trans (hHeld.2.2.2.2.2.2.2.2.2.2.2))))))))⟩ (fun hHeld => ?_)
   clear hK K
   refine pure_ (i := 11) (N := some 9) (v := ?_) (a' := ?_) (bs 12 4095) rfl rfl (any_of HT_.out (by kernel_rfl)) (fun _ _ _ h => h) (Or.inl ⟨by rfl, ?_⟩) ?_ ?_
   rotate_left
   ·intro w'
    go_simp
    with_reducible rfl
   rotate_left
   ·simp only [Act.put, sA, sB, sC, i64_w, i32_w]
    rfl
   refine done_ (done_of HT_.out (by kernel_rfl)) ?_
   try go_wp2
   refine bodyPost_ret (results_ct rfl _ _ E3 34 #[.int .i64 t248, .int .i64 t249, .int .i64 t250, .int .i64 t251] (0, 0) _ rfl (by exact zp E4 rfl) Try.underlying34 rfl (by kernel_rfl)) rfl ?_
   exact ⟨by first | rfl | (simp [errW_none, errW_some] <;> rfl) | (simp [*, errW_none, errW_some] <;> rfl), by exact zbo HB G4⟩
/-! ### raster_sides: function 57 -/
def raster_sides.f (a0 : Int) (a1 : Int) : Option (Int) := if a0 < 0 then (some 15) else (if a0 > 256 then (some 15) else (if a1 < 0 then (some 15) else (if a1 > 256 then (some 15) else (if ((a0 == 0) != (a1 == 0)) = true then (some 15) else (some 0)))))
set_option maxHeartbeats 8000000 in
set_option maxRecDepth 100000 in
theorem raster_sides.calls (a0 : Int) (a1 : Int) (r : Int) (w : World) (h : raster_sides.f a0 a1 = some r) :
  Calls Try.prog 57 #[.int .i64 a0, .int .i64 a1] w fun e w' => e = .returned (.int .i64 r) ∧ Drawn0 w w' := by
 have H : (if a0 < 0 then (some 15) else (if a0 > 256 then (some 15) else (if a1 < 0 then (some 15) else (if a1 > 256 then (some 15) else (if ((a0 == 0) != (a1 == 0)) = true then (some 15) else (some 0)))))) = some r := h
 clear h
 by_cases c3 : a0 < 0
 ·rw [if_pos c3] at H
  have E0 : decide (a0 < 0) = true := decide_eq_true c3
  clear c3
  obtain rfl := Option.some.inj H
  go_enter Try.func57, Try.ntmps57
  go_wp2
  go_ret
  exact ⟨by first | rfl | (simp; done) | (simp [*]; done), by repeat (first | exact Drawn0.refl _ | apply Drawn0.step)⟩
 rw [if_neg c3] at H
 have E0 : decide (a0 < 0) = false := decide_eq_false c3
 clear c3
 by_cases c4 : a0 > 256
 ·rw [if_pos c4] at H
  have E1 : decide (256 < a0) = true := decide_eq_true c4
  clear c4
  obtain rfl := Option.some.inj H
  go_enter Try.func57, Try.ntmps57
  go_wp2
  go_ret
  exact ⟨by first | rfl | (simp; done) | (simp [*]; done), by repeat (first | exact Drawn0.refl _ | apply Drawn0.step)⟩
 rw [if_neg c4] at H
 have E1 : decide (256 < a0) = false := decide_eq_false c4
 clear c4
 by_cases c5 : a1 < 0
 ·rw [if_pos c5] at H
  have E2 : decide (a1 < 0) = true := decide_eq_true c5
  clear c5
  obtain rfl := Option.some.inj H
  go_enter Try.func57, Try.ntmps57
  go_wp2
  go_ret
  exact ⟨by first | rfl | (simp; done) | (simp [*]; done), by repeat (first | exact Drawn0.refl _ | apply Drawn0.step)⟩
 rw [if_neg c5] at H
 have E2 : decide (a1 < 0) = false := decide_eq_false c5
 clear c5
 by_cases c6 : a1 > 256
 ·rw [if_pos c6] at H
  have E3 : decide (256 < a1) = true := decide_eq_true c6
  clear c6
  obtain rfl := Option.some.inj H
  go_enter Try.func57, Try.ntmps57
  go_wp2
  go_ret
  exact ⟨by first | rfl | (simp; done) | (simp [*]; done), by repeat (first | exact Drawn0.refl _ | apply Drawn0.step)⟩
 rw [if_neg c6] at H
 have E3 : decide (256 < a1) = false := decide_eq_false c6
 clear c6
 by_cases c7 : ((a0 == 0) != (a1 == 0)) = true
 ·rw [if_pos c7] at H
  have E4 : ((a0 == 0) != (a1 == 0)) = true := c7
  (try (have E5 : decide ((a0 == 0) = (a1 == 0)) = false := by simpa using c7))
  (try (have E6 : ((a0 == 0) == (a1 == 0)) = false := by simpa using c7))
  (try (have E7 : ¬ ((a0 == 0) = (a1 == 0)) := by simpa using c7))
  clear c7
  obtain rfl := Option.some.inj H
  go_enter Try.func57, Try.ntmps57
  go_wp2
  go_ret
  exact ⟨by first | rfl | (simp; done) | (simp [*]; done), by repeat (first | exact Drawn0.refl _ | apply Drawn0.step)⟩
 rw [if_neg c7] at H
 have E4 : ((a0 == 0) != (a1 == 0)) = false := by simpa using c7
 (try (have E5 : decide ((a0 == 0) = (a1 == 0)) = true := by simpa using c7))
 (try (have E6 : ((a0 == 0) == (a1 == 0)) = true := by simpa using c7))
 clear c7
 obtain rfl := Option.some.inj H
 go_enter Try.func57, Try.ntmps57
 go_wp2
 go_ret
 exact ⟨by first | rfl | (simp; done) | (simp [*]; done), by repeat (first | exact Drawn0.refl _ | apply Drawn0.step)⟩

/-! ### pixel_unit: function 93 -/
def pixel_unit.f (a0 : Int) : Option (Int) := (num_Clamp.f a0 0 65535).bind fun t252 => (some t252)
set_option maxHeartbeats 8000000 in
set_option maxRecDepth 100000 in
theorem pixel_unit.calls (a0 : Int) (r : Int) (w : World) (h : pixel_unit.f a0 = some r) :
  Calls Try.prog 93 #[.int .i64 a0] w fun e w' => e = .returned (.int .i64 r) ∧ Below w.heap.size w w' := by
 have HB := Aside0.mk (Below.refl w.heap.size w)
 have H : ((num_Clamp.f a0 0 65535).bind fun t252 => (some t252)) = some r := h
 clear h
 replace H := Option.bind_eq_some_iff.mp H
 obtain ⟨t252, A20, H⟩ := H
 try dsimp only at H
 have A2 := Aside0.mk A20
 clear A20
 obtain rfl := Option.some.inj H
 go_enter Try.func93, Try.ntmps93
 go_wp2_with (first | ((with_reducible refine gate_callee (f := 49) rfl ?_); refine goesL_ (some 4) rfl rfl Try.func49 (by kernel_rfl) rfl #[.int .i64 a0, .int .i64 0, .int .i64 65535] rfl (by (try simp only [List.map_toArray, List.map_cons, List.map_nil]); first | done | rfl | (simp only [List.length_drop, List.length_take]; rfl)) ?_; (with_reducible refine (num_Clamp.calls a0 0 65535 t252 _ A2.out).mono ?_); rintro e w3 ⟨rfl, hb⟩; refine ⟨_, rfl, ?_⟩; replace HB := zb HB hb; (try clear hb)))
 go_ret
 exact ⟨by first | rfl | (simp [errW_none, errW_some] <;> rfl) | (simp [*, errW_none, errW_some] <;> rfl), by exact zb0 HB⟩

/-! ### pixel_Limit: function 87 -/
def pixel_Limit.f (a0_0 : Int) (a0_1 : Int) (a0_2 : Int) (a0_3 : Int) : Option (Int × Int × Int × Int) := (pixel_unit.f a0_0).bind fun t255 => ((pixel_unit.f a0_1).bind fun t256 => ((pixel_unit.f a0_2).bind fun t257 => ((pixel_unit.f a0_3).bind fun t258 => (some (t255, t256, t257, t258)))))
def pixel_Limit.T1 : Bool × List (List Nat × List Nat) := (true, [([], []), ([0], [0]), ([1], [1]), ([], []), ([3], [3]), ([4, 2], [4]), ([], []), ([6], [6]), ([7, 5], [7]), ([], []), ([9], [9]), ([10, 8], [10]), ([2, 5, 8, 11], [2, 5, 8, 11]), ([12, 11, 0, 1, 2, 3, 4, 5, 6, 7, 8, 9, 10, 11, 12], [12])])
def pixel_Limit.B1 : List Nat := [0, 1, 3, 0, 8, 31, 0, 64, 255, 0, 512, 2047, 4095, 8191]
theorem pixel_Limit.tab1 : rtab .any (opsOf Try.f87 1) = pixel_Limit.T1 := by kernel_rfl
theorem pixel_Limit.bits1 : waitsOk pixel_Limit.T1.2 pixel_Limit.B1 = true := by kernel_rfl
set_option maxHeartbeats 8000000 in
set_option maxRecDepth 100000 in
theorem pixel_Limit.calls (a0_0 : Int) (a0_1 : Int) (a0_2 : Int) (a0_3 : Int) (r1 : Int) (r2 : Int) (r3 : Int) (r4 : Int) (w : World) (h : pixel_Limit.f a0_0 a0_1 a0_2 a0_3 = some (r1, r2, r3, r4)) :
  Calls Try.prog 87 #[.agg #[.int .i64 a0_0, .int .i64 a0_1, .int .i64 a0_2, .int .i64 a0_3]] w fun e w' => e = .returned (.agg #[.int .i64 r1, .int .i64 r2, .int .i64 r3, .int .i64 r4]) ∧ Below w.heap.size w w' := by
 have hu48 := Try.underlying48
 have HB := Aside0.mk (Below.refl w.heap.size w)
 have H : ((pixel_unit.f a0_0).bind fun t255 => ((pixel_unit.f a0_1).bind fun t256 => ((pixel_unit.f a0_2).bind fun t257 => ((pixel_unit.f a0_3).bind fun t258 => (some (t255, t256, t257, t258)))))) = some (r1, r2, r3, r4) := h
 clear h
 replace H := Option.bind_eq_some_iff.mp H
 obtain ⟨t255, A20, H⟩ := H
 try dsimp only at H
 have A2 := Aside0.mk A20
 clear A20
 replace H := Option.bind_eq_some_iff.mp H
 obtain ⟨t256, A30, H⟩ := H
 try dsimp only at H
 have A3 := Aside0.mk A30
 clear A30
 replace H := Option.bind_eq_some_iff.mp H
 obtain ⟨t257, A40, H⟩ := H
 try dsimp only at H
 have A4 := Aside0.mk A40
 clear A40
 replace H := Option.bind_eq_some_iff.mp H
 obtain ⟨t258, A50, H⟩ := H
 try dsimp only at H
 have A5 := Aside0.mk A50
 clear A50
 simp only [Option.some.injEq, Prod.mk.injEq] at H
 obtain ⟨rfl, rfl, rfl, rfl⟩ := H
 go_enter Try.func87, Try.ntmps87
 try go_wp2_with (first | ((with_reducible refine gate_dst (N := 1) rfl ?_); refine box_event ?hg (N := 1) ?hd (cs := #[.int .i64 a0_0, .int .i64 a0_1, .int .i64 a0_2, .int .i64 a0_3]) (t := 48) ?hr ?_; (case hd => rfl); (case hg => rfl); (case hr => first | (go_simp; done) | (go_simp; rfl)); intro E4 hg w6 hbox hb; have E7 := zg HB hg; have E8 := zg HB hg; have n0_ := Aside0.mk (hbox); replace HB := zb HB hb; have E0 := n0_; clear n0_; clear hb hbox hg) | ((with_reducible refine gate_dst (N := 2) rfl ?_); refine box_event ?hg (N := 2) ?hd (cs := #[.int .i64 0, .int .i64 0, .int .i64 0, .int .i64 0]) (t := 48) ?hr ?_; (case hd => rfl); (case hg => rfl); (case hr => first | (go_simp; done) | (go_simp; rfl)); intro E1 hg w7 hbox hb; have E9 := zg HB hg; have E6 := zg HB hg; have E2 := zn E0 hg; have E5 := zn' E0 hg; have n0_ := Aside0.mk (hbox); replace E0 := zk E0 hb; replace HB := zb HB hb; have E3 := n0_; clear n0_; clear hb hbox hg))
 replace E0 := zkd E0
 replace E3 := zkd E3
 replace HB := zbd HB
 refine start_ (n := 14) (S := fun w' => w'.cell? ⟨E4, 0, none⟩ = some (.int .i64 a0_0) ∧ w'.cell? ⟨E4, 1, none⟩ = some (.int .i64 a0_1) ∧ w'.cell? ⟨E4, 2, none⟩ = some (.int .i64 a0_2) ∧ w'.cell? ⟨E4, 3, none⟩ = some (.int .i64 a0_3)) (ds := []) (bs 14 0) (by kernel_rfl) rfl rfl ⟨(blk_cell E0.out 0).trans rfl, (blk_cell E0.out 1).trans rfl, (blk_cell E0.out 2).trans rfl, (blk_cell E0.out 3).trans rfl⟩ (fun hHeld => ?_); refine with_tabW pixel_Limit.tab1 pixel_Limit.bits1 (fun HT_ HW_ => ?_)
 generalize w7.drew = w8 at E0 E3 HB hHeld ⊢
 refine pure_ (i := 0) (N := some 3) (v := ?_) (a' := ?_) (bs 14 1) rfl rfl (any_of HT_.out (by kernel_rfl)) (fun _ _ _ h => h) (Or.inl ⟨by rfl, ?_⟩) ?_ ?_
 rotate_left
 ·intro w'
  go_simp
  with_reducible rfl
 rotate_left
 ·simp only [Act.put, sA, sB, sC, i64_w, i32_w]
  rfl
 refine pure_ (i := 3) (N := some 6) (v := ?_) (a' := ?_) (bs 14 9) rfl rfl (any_of HT_.out (by kernel_rfl)) (fun _ _ _ h => h) (Or.inl ⟨by rfl, ?_⟩) ?_ ?_
 rotate_left
 ·intro w'
  go_simp
  with_reducible rfl
 rotate_left
 ·simp only [Act.put, sA, sB, sC, i64_w, i32_w]
  rfl
 refine pure_ (i := 6) (N := some 9) (v := ?_) (a' := ?_) (bs 14 73) rfl rfl (any_of HT_.out (by kernel_rfl)) (fun _ _ _ h => h) (Or.inl ⟨by rfl, ?_⟩) ?_ ?_
 rotate_left
 ·intro w'
  go_simp
  with_reducible rfl
 rotate_left
 ·simp only [Act.put, sA, sB, sC, i64_w, i32_w]
  rfl
 refine pure_ (i := 9) (N := some 12) (v := ?_) (a' := ?_) (bs 14 585) rfl rfl (any_of HT_.out (by kernel_rfl)) (fun _ _ _ h => h) (Or.inl ⟨by rfl, ?_⟩) ?_ ?_
 rotate_left
 ·intro w'
  go_simp
  with_reducible rfl
 rotate_left
 ·simp only [Act.put, sA, sB, sC, i64_w, i32_w]
  rfl
 refine take_ (i := 1) (N := some 4) (v := ?_) (a' := ?_) (bs 14 587) rfl rfl (take_ofW HT_.out HW_.out (by kernel_rfl)) (fun _ _ _ h => h) (Or.inl ⟨by rfl, ?_⟩) hHeld ?_ ?_
 rotate_left
 ·rintro w' ⟨s0, s1, s2, s3⟩
  go_simp
  with_reducible rfl
 rotate_left
 ·simp only [Act.put, sA, sB, sC, i64_w, i32_w]
  rfl
 refine take_ (i := 4) (N := some 7) (v := ?_) (a' := ?_) (bs 14 603) rfl rfl (take_ofW HT_.out HW_.out (by kernel_rfl)) (fun _ _ _ h => h) (Or.inl ⟨by rfl, ?_⟩) hHeld ?_ ?_
 rotate_left
 ·rintro w' ⟨s0, s1, s2, s3⟩
  go_simp
  with_reducible rfl
 rotate_left
 ·simp only [Act.put, sA, sB, sC, i64_w, i32_w]
  rfl
 refine take_ (i := 7) (N := some 10) (v := ?_) (a' := ?_) (bs 14 731) rfl rfl (take_ofW HT_.out HW_.out (by kernel_rfl)) (fun _ _ _ h => h) (Or.inl ⟨by rfl, ?_⟩) hHeld ?_ ?_
 rotate_left
 ·rintro w' ⟨s0, s1, s2, s3⟩
  go_simp
  with_reducible rfl
 rotate_left
 ·simp only [Act.put, sA, sB, sC, i64_w, i32_w]
  rfl
 refine take_ (i := 10) (N := some 13) (v := ?_) (a' := ?_) (bs 14 1755) rfl rfl (take_ofW HT_.out HW_.out (by kernel_rfl)) (fun _ _ _ h => h) (Or.inl ⟨by rfl, ?_⟩) hHeld ?_ ?_
 rotate_left
 ·rintro w' ⟨s0, s1, s2, s3⟩
  go_simp
  with_reducible rfl
 rotate_left
 ·simp only [Act.put, sA, sB, sC, i64_w, i32_w]
  rfl
 refine one_ (i := 2) (N := some 5) (bs 14 1759) rfl rfl (one_of HT_.out (by kernel_rfl)) (by decide) (fun K hK => ?_)
 refine goes_ Try.func93 (by kernel_rfl) rfl #[.int .i64 a0_0] (by rfl) rfl rfl (by (try simp only [List.map_toArray, List.map_cons, List.map_nil]); first | done | rfl | (simp only [List.length_drop, List.length_take]; rfl)) ?_
 with_reducible refine (pixel_unit.calls a0_0 t255 _ A2.out).mono ?_
 rintro e w9 ⟨rfl, hb⟩
 refine ⟨_, rfl, ?_⟩
 replace E0 := zk E0 hb
 replace E3 := zk E3 hb
 replace HB := zb HB hb
 (try clear hb)
 (try clear hb2)
 (try clear hk)
 (try clear hi)
 refine hK.out _ _ ⟨(blk_cell E0.out 0).trans rfl, (blk_cell E0.out 1).trans rfl, (blk_cell E0.out 2).trans rfl, (blk_cell E0.out 3).trans rfl⟩ (fun hHeld => ?_)
 clear hK K
 refine norm_ (a' := ?_) ?_ ?_
 rotate_left
 ·show Act.put _ (some 5) _ = _
  simp only [Act.put, sA, sB, sC, i64_w, i32_w]
  rfl
 refine one_ (i := 5) (N := some 8) (bs 14 1791) rfl rfl (one_of HT_.out (by kernel_rfl)) (by decide) (fun K hK => ?_)
 refine goes_ Try.func93 (by kernel_rfl) rfl #[.int .i64 a0_1] (by rfl) rfl rfl (by (try simp only [List.map_toArray, List.map_cons, List.map_nil]); first | done | rfl | (simp only [List.length_drop, List.length_take]; rfl)) ?_
 with_reducible refine (pixel_unit.calls a0_1 t256 _ A3.out).mono ?_
 rintro e w10 ⟨rfl, hb⟩
 refine ⟨_, rfl, ?_⟩
 replace E0 := zk E0 hb
 replace E3 := zk E3 hb
 replace HB := zb HB hb
 (try clear hb)
 (try clear hb2)
 (try clear hk)
 (try clear hi)
 refine hK.out _ _ ⟨(blk_cell E0.out 0).trans rfl, (blk_cell E0.out 1).trans rfl, (blk_cell E0.out 2).trans rfl, (blk_cell E0.out 3).trans rfl⟩ (fun hHeld => ?_)
 clear hK K
 refine norm_ (a' := ?_) ?_ ?_
 rotate_left
 ·show Act.put _ (some 8) _ = _
  simp only [Act.put, sA, sB, sC, i64_w, i32_w]
  rfl
 refine one_ (i := 8) (N := some 11) (bs 14 2047) rfl rfl (one_of HT_.out (by kernel_rfl)) (by decide) (fun K hK => ?_)
 refine goes_ Try.func93 (by kernel_rfl) rfl #[.int .i64 a0_2] (by rfl) rfl rfl (by (try simp only [List.map_toArray, List.map_cons, List.map_nil]); first | done | rfl | (simp only [List.length_drop, List.length_take]; rfl)) ?_
 with_reducible refine (pixel_unit.calls a0_2 t257 _ A4.out).mono ?_
 rintro e w11 ⟨rfl, hb⟩
 refine ⟨_, rfl, ?_⟩
 replace E0 := zk E0 hb
 replace E3 := zk E3 hb
 replace HB := zb HB hb
 (try clear hb)
 (try clear hb2)
 (try clear hk)
 (try clear hi)
 refine hK.out _ _ ⟨(blk_cell E0.out 0).trans rfl, (blk_cell E0.out 1).trans rfl, (blk_cell E0.out 2).trans rfl, (blk_cell E0.out 3).trans rfl⟩ (fun hHeld => ?_)
 clear hK K
 refine norm_ (a' := ?_) ?_ ?_
 rotate_left
 ·show Act.put _ (some 11) _ = _
  simp only [Act.put, sA, sB, sC, i64_w, i32_w]
  rfl
 refine one_ (i := 11) (N := some 14) (bs 14 4095) rfl rfl (one_of HT_.out (by kernel_rfl)) (by decide) (fun K hK => ?_)
 refine goes_ Try.func93 (by kernel_rfl) rfl #[.int .i64 a0_3] (by rfl) rfl rfl (by (try simp only [List.map_toArray, List.map_cons, List.map_nil]); first | done | rfl | (simp only [List.length_drop, List.length_take]; rfl)) ?_
 with_reducible refine (pixel_unit.calls a0_3 t258 _ A5.out).mono ?_
 rintro e w12 ⟨rfl, hb⟩
 refine ⟨_, rfl, ?_⟩
 replace E0 := zk E0 hb
 replace E3 := zk E3 hb
 replace HB := zb HB hb
 (try clear hb)
 (try clear hb2)
 (try clear hk)
 (try clear hi)
 refine hK.out _ _ ⟨(blk_cell E0.out 0).trans rfl, (blk_cell E0.out 1).trans rfl, (blk_cell E0.out 2).trans rfl, (blk_cell E0.out 3).trans rfl⟩ (fun hHeld => ?_)
 clear hK K
 refine norm_ (a' := ?_) ?_ ?_
 rotate_left
 ·show Act.put _ (some 14) _ = _
  simp only [Act.put, sA, sB, sC, i64_w, i32_w]
  rfl
 refine pure_ (i := 12) (N := some 15) (v := ?_) (a' := ?_) (bs 14 8191) rfl rfl (any_of HT_.out (by kernel_rfl)) (fun _ _ _ h => h) (Or.inl ⟨by rfl, ?_⟩) ?_ ?_
 rotate_left
 ·intro w'
  go_simp
  with_reducible rfl
 rotate_left
 ·simp only [Act.put, sA, sB, sC, i64_w, i32_w]
  rfl
 refine one_ (i := 13) (N := none) (bs 14 16383) rfl rfl (one_of HT_.out (by kernel_rfl)) (by decide) (fun K hK => ?_)
 have hs13 : w12.cell? ⟨E1, 0, none⟩ = some (.int .i64 0) := (blk_cell E3.out 0).trans rfl
 have hfs13 := blk_frozen E3.out 0
 have G0 := E2.out
 have G1 := E5.out
 have hs14 : w12.cell? ⟨E1, 1, none⟩ = some (.int .i64 0) := (blk_cell E3.out 1).trans rfl
 have hfs14 := blk_frozen E3.out 1
 have G2 := E2.out
 have G3 := E5.out
 have hs15 : w12.cell? ⟨E1, 2, none⟩ = some (.int .i64 0) := (blk_cell E3.out 2).trans rfl
 have hfs15 := blk_frozen E3.out 2
 have G4 := E2.out
 have G5 := E5.out
 have hs16 : w12.cell? ⟨E1, 3, none⟩ = some (.int .i64 0) := (blk_cell E3.out 3).trans rfl
 have hfs16 := blk_frozen E3.out 3
 have G6 := E2.out
 have G7 := E5.out
 refine skip_ (w1 := ?_) (by rfl) rfl ?_ ?_
 rotate_left
 ·go_simp
  rfl
 refine hK.out _ _ ⟨((cell_far (p := ⟨E1, _, none⟩) E2.out _).trans (((cell_far (p := ⟨E1, _, none⟩) E2.out _).trans (((cell_far (p := ⟨E1, _, none⟩) E2.out _).trans (((cell_far (p := ⟨E1, _, none⟩) E2.out _).trans (hHeld.1)))))))), ((cell_far (p := ⟨E1, _, none⟩) E2.out _).trans (((cell_far (p := ⟨E1, _, none⟩) E2.out _).trans (((cell_far (p := ⟨E1, _, none⟩) E2.out _).trans (((cell_far (p := ⟨E1, _, none⟩) E2.out _).trans (hHeld.2.1)))))))), ((cell_far (p := ⟨E1, _, none⟩) E2.out _).trans (((cell_far (p := ⟨E1, _, none⟩) E2.out _).trans (((cell_far (p := ⟨E1, _, none⟩) E2.out _).trans (((cell_far (p := ⟨E1, _, none⟩) E2.out _).trans (hHeld.2.2.1)))))))), ((cell_far (p := ⟨E1, _, none⟩) E2.out _).trans (((cell_far (p := ⟨E1, _, none⟩) E2.out _).trans (((cell_far (p := ⟨E1, _, none⟩) E2.out _).trans (((cell_far (p := ⟨E1, _, none⟩) E2.out _).trans (hHeld.2.2.2))))))))⟩ (fun hHeld => ?_)
 clear hK K
 refine done_ (done_of HT_.out (by kernel_rfl)) ?_
 try go_wp2
 refine bodyPost_ret (results_cell_row rfl _ _ E1 48 #[.int .i64 t255, .int .i64 t256, .int .i64 t257, .int .i64 t258] (0, 0) _ rfl (by exact zp E3 rfl) Try.underlying48 rfl (by kernel_rfl)) rfl ?_
 exact ⟨by first | rfl | (simp [errW_none, errW_some] <;> rfl) | (simp [*, errW_none, errW_some] <;> rfl), by exact zbo HB E6⟩

end Go.Proofs.Ytnfbabmceddciaa.G
