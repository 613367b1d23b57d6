/- Contracts of functions of the program, each as it is called: what it computes (.f), that it computes no less with more rounds (.mono), and that a call returns just that (.calls). No conditions but those that each contract names. Written by a program of this session (wip/gx.py over the kit's print). -/
import Derived.Test.YtapdifpmijgkcaaG0
import Derived.Test.YtapdifpmijgkcaaG1
import Derived.Test.YtapdifpmijgkcaaG3
import Derived.Test.YtapdifpmijgkcaaG4
import Derived.Test.YtapdifpmijgkcaaG10
namespace Go.Proofs.Ytapdifpmijgkcaa.G
open Go.RowKit Go.Proofs.YtapdifpmijgkcaaW.PrintWords Go.Proofs.YtapdifpmijgkcaaW.PrintLast Go.Proofs.YtapdifpmijgkcaaW.PrintMore
attribute [local go_sem] max2_int min2_int max_two min_two max_three min_three max_four min_four   -- for this text's walks alone
set_option linter.unusedVariables false
set_option linter.unusedSimpArgs false


/-! ### rect_between: function 56 -/
def rect_between.f (a0 : Int) (a1 : Int) (a2 : Int) (a3 : Int) : Option (Int × Int × Int × Int) := if a0 ≥ a2 then (some (0, 0, 0, 0)) else (if a1 ≥ a3 then (some (0, 0, 0, 0)) else (some (a0, a1, wrap64 (a2 - a0), wrap64 (a3 - a1))))
set_option maxHeartbeats 8000000 in
set_option maxRecDepth 100000 in
theorem rect_between.calls (a0 : Int) (a1 : Int) (a2 : Int) (a3 : Int) (r1 : Int) (r2 : Int) (r3 : Int) (r4 : Int) (w : World) (h : rect_between.f a0 a1 a2 a3 = some (r1, r2, r3, r4)) :
  Calls Try.prog 56 #[.int .i64 a0, .int .i64 a1, .int .i64 a2, .int .i64 a3] w fun e w' => e = .returned (.agg #[.int .i64 r1, .int .i64 r2, .int .i64 r3, .int .i64 r4]) ∧ Below w.heap.size w w' := by
 have hu27 := Try.underlying27
 have HB := Aside0.mk (Below.refl w.heap.size w)
 have H : (if a0 ≥ a2 then (some (0, 0, 0, 0)) else (if a1 ≥ a3 then (some (0, 0, 0, 0)) else (some (a0, a1, wrap64 (a2 - a0), wrap64 (a3 - a1))))) = some (r1, r2, r3, r4) := h
 clear h
 by_cases c5 : a0 ≥ a2
 ·rw [if_pos c5] at H
  have E4 : decide (a2 ≤ a0) = true := decide_eq_true c5
  clear c5
  simp only [Option.some.injEq, Prod.mk.injEq] at H
  obtain ⟨rfl, rfl, rfl, rfl⟩ := H
  go_enter Try.func56, Try.ntmps56
  go_wp2_with (first | ((with_reducible refine gate_dst (N := 8) rfl ?_); refine box_event ?hg (N := 8) ?hd (cs := #[.int .i64 0, .int .i64 0, .int .i64 0, .int .i64 0]) (t := 27) ?hr ?_; (case hd => rfl); (case hg => rfl); (case hr => first | (go_simp; done) | (go_simp; rfl)); intro E1 hg w6 hbox hb; have E3 := zg HB hg; have E2 := zg HB hg; have n0_ := Aside0.mk (hbox); replace HB := zb HB hb; have E0 := n0_; clear n0_; clear hb hbox hg; obtain ⟨E6, E7, E8, E9, G0, G1, G2, G3⟩ := zq4 E0))
  refine bodyPost_ret (results_cell_row rfl _ _ E1 27 #[.int .i64 0, .int .i64 0, .int .i64 0, .int .i64 0] (0, 0) _ rfl (by exact zp E0 rfl) Try.underlying27 rfl (by kernel_rfl)) rfl ?_
  exact ⟨by first | rfl | (simp [errW_none, errW_some] <;> rfl) | (simp [*, errW_none, errW_some] <;> rfl), by exact zbo HB E2⟩
 rw [if_neg c5] at H
 have E4 : decide (a2 ≤ a0) = false := decide_eq_false c5
 clear c5
 by_cases c8 : a1 ≥ a3
 ·rw [if_pos c8] at H
  have E5 : decide (a3 ≤ a1) = true := decide_eq_true c8
  clear c8
  simp only [Option.some.injEq, Prod.mk.injEq] at H
  obtain ⟨rfl, rfl, rfl, rfl⟩ := H
  go_enter Try.func56, Try.ntmps56
  go_wp2_with (first | ((with_reducible refine gate_dst (N := 8) rfl ?_); refine box_event ?hg (N := 8) ?hd (cs := #[.int .i64 0, .int .i64 0, .int .i64 0, .int .i64 0]) (t := 27) ?hr ?_; (case hd => rfl); (case hg => rfl); (case hr => first | (go_simp; done) | (go_simp; rfl)); intro E1 hg w9 hbox hb; have E3 := zg HB hg; have E2 := zg HB hg; have n0_ := Aside0.mk (hbox); replace HB := zb HB hb; have E0 := n0_; clear n0_; clear hb hbox hg; obtain ⟨G4, G5, G6, G7, G8, G9, V0, V1⟩ := zq4 E0))
  refine bodyPost_ret (results_cell_row rfl _ _ E1 27 #[.int .i64 0, .int .i64 0, .int .i64 0, .int .i64 0] (0, 0) _ rfl (by exact zp E0 rfl) Try.underlying27 rfl (by kernel_rfl)) rfl ?_
  exact ⟨by first | rfl | (simp [errW_none, errW_some] <;> rfl) | (simp [*, errW_none, errW_some] <;> rfl), by exact zbo HB E2⟩
 rw [if_neg c8] at H
 have E5 : decide (a3 ≤ a1) = false := decide_eq_false c8
 clear c8
 simp only [Option.some.injEq, Prod.mk.injEq] at H
 obtain ⟨rfl, rfl, rfl, rfl⟩ := H
 go_enter Try.func56, Try.ntmps56
 go_wp2_with (first | ((with_reducible refine gate_dst (N := 8) rfl ?_); refine box_event ?hg (N := 8) ?hd (cs := #[.int .i64 0, .int .i64 0, .int .i64 0, .int .i64 0]) (t := 27) ?hr ?_; (case hd => rfl); (case hg => rfl); (case hr => first | (go_simp; done) | (go_simp; rfl)); intro E1 hg w11 hbox hb; have E3 := zg HB hg; have E2 := zg HB hg; have n0_ := Aside0.mk (hbox); replace HB := zb HB hb; have E0 := n0_; clear n0_; clear hb hbox hg; obtain ⟨V2, V3, V4, V5, V6, V7, V8, V9⟩ := zq4 E0))
 refine bodyPost_ret (results_cell_row rfl _ _ E1 27 #[.int .i64 a0, .int .i64 a1, .int .i64 (wrap64 (a2 - a0)), .int .i64 (wrap64 (a3 - a1))] (0, 0) _ rfl (by exact zp E0 rfl) Try.underlying27 rfl (by kernel_rfl)) rfl ?_
 exact ⟨by first | rfl | (simp [errW_none, errW_some] <;> rfl) | (simp [*, errW_none, errW_some] <;> rfl), by exact zbo HB E2⟩

/-! ### rect_meet: function 33 -/
def rect_meet.f (a0_0 : Int) (a0_1 : Int) (a0_2 : Int) (a0_3 : Int) (a1_0 : Int) (a1_1 : Int) (a1_2 : Int) (a1_3 : Int) : Option (Int × Int × Int × Int) := (rect_between.f (mx a0_0 a1_0) (mx a0_1 a1_1) (mn (wrap64 (a0_0 + a0_2)) (wrap64 (a1_0 + a1_2))) (mn (wrap64 (a0_1 + a0_3)) (wrap64 (a1_1 + a1_3)))).bind fun E0 => (some (E0.1, E0.2.1, E0.2.2.1, E0.2.2.2))
set_option maxHeartbeats 8000000 in
set_option maxRecDepth 100000 in
theorem rect_meet.calls (a0_0 : Int) (a0_1 : Int) (a0_2 : Int) (a0_3 : Int) (a1_0 : Int) (a1_1 : Int) (a1_2 : Int) (a1_3 : Int) (r1 : Int) (r2 : Int) (r3 : Int) (r4 : Int) (w : World) (h : rect_meet.f a0_0 a0_1 a0_2 a0_3 a1_0 a1_1 a1_2 a1_3 = some (r1, r2, r3, r4)) :
  Calls Try.prog 33 #[.agg #[.int .i64 a0_0, .int .i64 a0_1, .int .i64 a0_2, .int .i64 a0_3], .agg #[.int .i64 a1_0, .int .i64 a1_1, .int .i64 a1_2, .int .i64 a1_3]] w fun e w' => e = .returned (.agg #[.int .i64 r1, .int .i64 r2, .int .i64 r3, .int .i64 r4]) ∧ Below w.heap.size w w' := by
 have hu27 := Try.underlying27
 have HB := Aside0.mk (Below.refl w.heap.size w)
 have H : ((rect_between.f (mx a0_0 a1_0) (mx a0_1 a1_1) (mn (wrap64 (a0_0 + a0_2)) (wrap64 (a1_0 + a1_2))) (mn (wrap64 (a0_1 + a0_3)) (wrap64 (a1_1 + a1_3)))).bind fun E0 => (some (E0.1, E0.2.1, E0.2.2.1, E0.2.2.2))) = some (r1, r2, r3, r4) := h
 clear h
 obtain ⟨E2, E5⟩ : ∃ j_ : Int, (mx a0_0 a1_0) = j_ := ⟨_, rfl⟩
 replace H : ((rect_between.f (E2) (mx a0_1 a1_1) (mn (wrap64 (a0_0 + a0_2)) (wrap64 (a1_0 + a1_2))) (mn (wrap64 (a0_1 + a0_3)) (wrap64 (a1_1 + a1_3)))).bind fun E0 => (some (E0.1, E0.2.1, E0.2.2.1, E0.2.2.2))) = some (r1, r2, r3, r4) := by first | (rw [E5] at H; exact H) | (simp only [E5] at H ⊢; exact H)
 have hji3_ : (if a0_0 < a1_0 then a1_0 else a0_0) = E2 := E5
 obtain ⟨E4, E6⟩ : ∃ j_ : Int, (mx a0_1 a1_1) = j_ := ⟨_, rfl⟩
 replace H : ((rect_between.f (E2) (E4) (mn (wrap64 (a0_0 + a0_2)) (wrap64 (a1_0 + a1_2))) (mn (wrap64 (a0_1 + a0_3)) (wrap64 (a1_1 + a1_3)))).bind fun E0 => (some (E0.1, E0.2.1, E0.2.2.1, E0.2.2.2))) = some (r1, r2, r3, r4) := by first | (rw [E6] at H; exact H) | (simp only [E6] at H ⊢; exact H)
 have hji4_ : (if a0_1 < a1_1 then a1_1 else a0_1) = E4 := E6
 obtain ⟨E7, E8⟩ : ∃ j_ : Int, (mn (wrap64 (a0_0 + a0_2)) (wrap64 (a1_0 + a1_2))) = j_ := ⟨_, rfl⟩
 replace H : ((rect_between.f (E2) (E4) (E7) (mn (wrap64 (a0_1 + a0_3)) (wrap64 (a1_1 + a1_3)))).bind fun E0 => (some (E0.1, E0.2.1, E0.2.2.1, E0.2.2.2))) = some (r1, r2, r3, r4) := by first | (rw [E8] at H; exact H) | (simp only [E8] at H ⊢; exact H)
 have hji5_ : (if (wrap64 (a1_0 + a1_2)) < (wrap64 (a0_0 + a0_2)) then (wrap64 (a1_0 + a1_2)) else (wrap64 (a0_0 + a0_2))) = E7 := E8
 obtain ⟨G0, E9⟩ : ∃ j_ : Int, (mn (wrap64 (a0_1 + a0_3)) (wrap64 (a1_1 + a1_3))) = j_ := ⟨_, rfl⟩
 replace H : ((rect_between.f (E2) (E4) (E7) (G0)).bind fun E0 => (some (E0.1, E0.2.1, E0.2.2.1, E0.2.2.2))) = some (r1, r2, r3, r4) := by first | (rw [E9] at H; exact H) | (simp only [E9] at H ⊢; exact H)
 have hji6_ : (if (wrap64 (a1_1 + a1_3)) < (wrap64 (a0_1 + a0_3)) then (wrap64 (a1_1 + a1_3)) else (wrap64 (a0_1 + a0_3))) = G0 := E9
 replace H := Option.bind_eq_some_iff.mp H
 obtain ⟨⟨t338, t339, t340, t341⟩, A70, H⟩ := H
 try dsimp only at H
 have A7 := Aside0.mk A70
 clear A70
 simp only [Option.some.injEq, Prod.mk.injEq] at H
 obtain ⟨rfl, rfl, rfl, rfl⟩ := H
 go_enter Try.func33, Try.ntmps33
 go_wp2_with (first | ((with_reducible refine gate_dst (N := 2) rfl ?_); refine box_event ?hg (N := 2) ?hd (cs := #[.int .i64 a0_0, .int .i64 a0_1, .int .i64 a0_2, .int .i64 a0_3]) (t := 27) ?hr ?_; (case hd => rfl); (case hg => rfl); (case hr => first | (go_simp; done) | (go_simp; rfl)); intro V0 hg w8 hbox hb; have V1 := zg HB hg; have V2 := zg HB hg; have n0_ := Aside0.mk (hbox); replace HB := zb HB hb; have E1 := n0_; clear n0_; clear hb hbox hg) | ((with_reducible refine gate_dst (N := 3) rfl ?_); refine box_event ?hg (N := 3) ?hd (cs := #[.int .i64 a1_0, .int .i64 a1_1, .int .i64 a1_2, .int .i64 a1_3]) (t := 27) ?hr ?_; (case hd => rfl); (case hg => rfl); (case hr => first | (go_simp; done) | (go_simp; rfl)); intro V3 hg w9 hbox hb; have V4 := zg HB hg; have V5 := zg HB hg; have G2 := zn E1 hg; have G3 := zn' E1 hg; have n0_ := Aside0.mk (hbox); replace E1 := zk E1 hb; replace HB := zb HB hb; have E3 := n0_; clear n0_; clear hb hbox hg) | ((with_reducible refine gate_dst (N := 4) rfl ?_); refine box_event ?hg (N := 4) ?hd (cs := #[.int .i64 0, .int .i64 0, .int .i64 0, .int .i64 0]) (t := 27) ?hr ?_; (case hd => rfl); (case hg => rfl); (case hr => first | (go_simp; done) | (go_simp; rfl)); intro G4 hg w10 hbox hb; have V6 := zg HB hg; have G5 := zg HB hg; have G6 := zn E1 hg; have G7 := zn' E1 hg; have G8 := zn E3 hg; have G9 := zn' E3 hg; have n0_ := Aside0.mk (hbox); replace E1 := zk E1 hb; replace E3 := zk E3 hb; replace HB := zb HB hb; have G1 := n0_; clear n0_; clear hb hbox hg; have V7 := G2.out; have V8 := G3.out; have V9 := G6.out; have Y0 := G7.out; obtain ⟨Y1, Y2, Y3, Y4, Y5, Y6, Y7, Y8⟩ := zq4 E1; have Y9 := G8.out; have Z0 := G9.out; obtain ⟨Z1, Z2, Z3, Z4, Z5, Z6, Z7, Z8⟩ := zq4 E3) | ((with_reducible refine gate_callee (f := 56) rfl ?_); refine goesL_ (some 37) rfl rfl Try.func56 (by kernel_rfl) rfl #[.int .i64 E2, .int .i64 E4, .int .i64 E7, .int .i64 G0] rfl (by (try simp only [List.map_toArray, List.map_cons, List.map_nil]); first | done | (simp only [E5, E6, E8, E9]; rfl) | rfl | (simp only [List.length_drop, List.length_take]; rfl)) ?_; (with_reducible refine (rect_between.calls E2 E4 E7 G0 t338 t339 t340 t341 _ A7.out).mono ?_); rintro e w16 ⟨rfl, hb⟩; refine ⟨_, rfl, ?_⟩; replace E1 := zk E1 hb; replace E3 := zk E3 hb; replace G1 := zk G1 hb; replace HB := zb HB hb; (try clear hb); obtain ⟨Z9, J0, J1, J2, J3, J4, J5, J6⟩ := zq4 G1))
 refine bodyPost_ret (results_cell_row rfl _ _ G4 27 #[.int .i64 t338, .int .i64 t339, .int .i64 t340, .int .i64 t341] (0, 0) _ rfl (by exact zp G1 rfl) Try.underlying27 rfl (by kernel_rfl)) rfl ?_
 exact ⟨by first | rfl | (simp [errW_none, errW_some] <;> rfl) | (simp only [← E5, ← E6, ← E8, ← E9]; first | rfl | (simp [errW_none, errW_some] <;> rfl)) | (simp [*, errW_none, errW_some] <;> rfl), by exact zbo HB G5⟩

/-! ### rect_limit: function 70 -/
def rect_limit.f (a0 : Int) : Option (Int) := some (mn (mx a0 (-4194304)) 4194304)
set_option maxHeartbeats 8000000 in
set_option maxRecDepth 100000 in
theorem rect_limit.calls (a0 : Int) (r : Int) (w : World) (h : rect_limit.f a0 = some r) :
  Calls Try.prog 70 #[.int .i64 a0] w fun e w' => e = .returned (.int .i64 r) ∧ Below w.heap.size w w' := by
 have HB := Aside0.mk (Below.refl w.heap.size w)
 have H : (some (mn (mx a0 (-4194304)) 4194304)) = some r := h
 clear h
 obtain ⟨E0, E1⟩ : ∃ j_ : Int, (mx a0 (-4194304)) = j_ := ⟨_, rfl⟩
 replace H : (some (mn (E0) 4194304)) = some r := by first | (rw [E1] at H; exact H) | (simp only [E1] at H ⊢; exact H)
 have hji2_ : (if a0 < (-4194304) then (-4194304) else a0) = E0 := E1
 obtain ⟨E3, E2⟩ : ∃ j_ : Int, (mn (E0) 4194304) = j_ := ⟨_, rfl⟩
 replace H : (some E3) = some r := by first | (rw [E2] at H; exact H) | (simp only [E2] at H ⊢; exact H)
 have hji3_ : (if 4194304 < (E0) then 4194304 else (E0)) = E3 := E2
 obtain rfl := Option.some.inj H
 go_enter Try.func70, Try.ntmps70
 go_wp2
 go_ret
 exact ⟨by first | rfl | (simp [errW_none, errW_some] <;> rfl) | (simp only [← E1, ← E2]; first | rfl | (simp [errW_none, errW_some] <;> rfl)) | (simp [*, errW_none, errW_some] <;> rfl), by exact zb0 HB⟩

/-! ### rect_world: function 71 -/
def rect_world.f  : Option (Int × Int × Int × Int) := some ((-1048576), (-1048576), 2097152, 2097152)
set_option maxHeartbeats 8000000 in
set_option maxRecDepth 100000 in
theorem rect_world.calls  (r1 : Int) (r2 : Int) (r3 : Int) (r4 : Int) (w : World) (h : rect_world.f  = some (r1, r2, r3, r4)) :
  Calls Try.prog 71 #[] w fun e w' => e = .returned (.agg #[.int .i64 r1, .int .i64 r2, .int .i64 r3, .int .i64 r4]) ∧ Below w.heap.size w w' := by
 have hu27 := Try.underlying27
 have HB := Aside0.mk (Below.refl w.heap.size w)
 have H : (some ((-1048576), (-1048576), 2097152, 2097152)) = some (r1, r2, r3, r4) := h
 clear h
 simp only [Option.some.injEq, Prod.mk.injEq] at H
 obtain ⟨rfl, rfl, rfl, rfl⟩ := H
 go_enter Try.func71, Try.ntmps71
 go_wp2_with (first | ((with_reducible refine gate_dst (N := 0) rfl ?_); refine box_event ?hg (N := 0) ?hd (cs := #[.int .i64 0, .int .i64 0, .int .i64 0, .int .i64 0]) (t := 27) ?hr ?_; (case hd => rfl); (case hg => rfl); (case hr => first | (go_simp; done) | (go_simp; rfl)); intro E1 hg w1 hbox hb; have E3 := zg HB hg; have E2 := zg HB hg; have n0_ := Aside0.mk (hbox); replace HB := zb HB hb; have E0 := n0_; clear n0_; clear hb hbox hg; obtain ⟨E4, E5, E6, E7, E8, E9, G0, G1⟩ := zq4 E0))
 refine bodyPost_ret (results_cell_row rfl _ _ E1 27 #[.int .i64 (-1048576), .int .i64 (-1048576), .int .i64 2097152, .int .i64 2097152] (0, 0) _ rfl (by exact zp E0 rfl) Try.underlying27 rfl (by kernel_rfl)) rfl ?_
 exact ⟨by first | rfl | (simp [errW_none, errW_some] <;> rfl) | (simp [*, errW_none, errW_some] <;> rfl), by exact zbo HB E2⟩

/-! ### rect_Grow: function 43 -/
def rect_Grow.j0 : Nat → Int → Bool → Int → Int → Int → Int → Option (Int × Int × Int × Int)
 | 0, _, _, _, _, _, _ => none
 | k + 1, x1, x24, G0, G1, G2, G3 => if x24 = true then (some (0, 0, 0, 0)) else ((rect_world.f).bind fun E7 => ((rect_meet.f (wrap64 (G0 - x1)) (wrap64 (G1 - x1)) (wrap64 (G2 + (wrap64 (2 * x1)))) (wrap64 (G3 + (wrap64 (2 * x1)))) E7.1 E7.2.1 E7.2.2.1 E7.2.2.2).bind fun E8 => (some (E8.1, E8.2.1, E8.2.2.1, E8.2.2.2))))
def rect_Grow.f (k : Nat) (a0_0 : Int) (a0_1 : Int) (a0_2 : Int) (a0_3 : Int) (a1 : Int) : Option (Int × Int × Int × Int) := (rect_limit.f a1).bind fun t345 => ((rect_Empty.f a0_0 a0_1 a0_2 a0_3).bind fun t346 => (if t346 = true then (rect_Grow.j0 k t345 true a0_0 a0_1 a0_2 a0_3) else (if (wrap64 (a0_2 + (wrap64 (2 * t345)))) ≤ 0 then (rect_Grow.j0 k t345 true a0_0 a0_1 a0_2 a0_3) else (rect_Grow.j0 k t345 (decide ((wrap64 (a0_3 + (wrap64 (2 * t345)))) ≤ 0)) a0_0 a0_1 a0_2 a0_3))))
theorem rect_Grow.mono_l : ∀ k, (∀ y0 y1 y2 y3 y4 y5, LeO (rect_Grow.j0 k y0 y1 y2 y3 y4 y5) (rect_Grow.j0 (k + 1) y0 y1 y2 y3 y4 y5))
 | 0 => fun _ _ _ _ _ _ r h => by simp [rect_Grow.j0] at h
 | k + 1 => by
  have ih0 := rect_Grow.mono_l k
  ·intro y0 y1 y2 y3 y4 y5
   unfold rect_Grow.j0
   repeat' first
   | (with_reducible exact ih0 _ _ _ _ _ _)
   | (with_reducible exact LeO.refl _)
   | (with_reducible exact LeO.none _)
   | (with_reducible refine LeO.ite ?_ ?_)
   | (with_reducible refine LeO.bind ?_ (fun _ => ?_))
   | exact ih0 _ _ _ _ _ _
   | exact LeO.none _
   | refine LeO.ite ?_ ?_
   | refine LeO.bind ?_ (fun _ => ?_)
theorem rect_Grow.mono : ∀ a0 a1 a2 a3 a4 k, LeO (rect_Grow.f k a0 a1 a2 a3 a4) (rect_Grow.f (k + 1) a0 a1 a2 a3 a4) := by
 intro a0 a1 a2 a3 a4 k
 have ih0 := rect_Grow.mono_l k
 unfold rect_Grow.f
 repeat' first
   | (with_reducible exact ih0 _ _ _ _ _ _)
   | (with_reducible exact LeO.refl _)
   | (with_reducible exact LeO.none _)
   | (with_reducible refine LeO.ite ?_ ?_)
   | (with_reducible refine LeO.bind ?_ (fun _ => ?_))
   | exact ih0 _ _ _ _ _ _
   | exact LeO.none _
   | refine LeO.ite ?_ ?_
   | refine LeO.bind ?_ (fun _ => ?_)
def rect_Grow.T4 : Bool × List (List Nat × List Nat) := (true, [([], []), ([0], [0]), ([], []), ([1, 2], [1, 2]), ([], []), ([4], [4]), ([], []), ([5, 6], [5, 6]), ([], []), ([8], [8]), ([], []), ([10], [10]), ([9, 11], [9, 11]), ([], []), ([13], [13]), ([], []), ([15], [15]), ([14, 16], [14, 16]), ([3, 7, 12, 17], [3, 7, 12, 17]), ([], []), ([18, 19, 19], [18, 19]), ([20, 20, 0, 1, 2, 3, 4, 5, 6, 7, 8, 9, 10, 11, 12, 13, 14, 15, 16, 17, 18, 19, 20], [20])])
def rect_Grow.B4 : List Nat := [0, 1, 0, 7, 0, 16, 0, 112, 0, 256, 0, 1024, 3840, 0, 8192, 0, 32768, 122880, 262143, 0, 1048575, 2097151]
theorem rect_Grow.tab4 : rtab .any (opsOf Try.f43 4) = rect_Grow.T4 := by kernel_rfl
theorem rect_Grow.bits4 : waitsOk rect_Grow.T4.2 rect_Grow.B4 = true := by kernel_rfl
set_option maxHeartbeats 8000000 in
set_option maxRecDepth 100000 in
theorem rect_Grow.calls (k : Nat) (a0_0 : Int) (a0_1 : Int) (a0_2 : Int) (a0_3 : Int) (a1 : Int) (r1 : Int) (r2 : Int) (r3 : Int) (r4 : Int) (w : World) (h : rect_Grow.f k a0_0 a0_1 a0_2 a0_3 a1 = some (r1, r2, r3, r4)) :
  Calls Try.prog 43 #[.agg #[.int .i64 a0_0, .int .i64 a0_1, .int .i64 a0_2, .int .i64 a0_3], .int .i64 a1] w fun e w' => e = .returned (.agg #[.int .i64 r1, .int .i64 r2, .int .i64 r3, .int .i64 r4]) ∧ Below w.heap.size w w' := by
 have hu27 := Try.underlying27
 have HB := Aside0.mk (Below.refl w.heap.size w)
 have H : ((rect_limit.f a1).bind fun t345 => ((rect_Empty.f a0_0 a0_1 a0_2 a0_3).bind fun t346 => (if t346 = true then (rect_Grow.j0 k t345 true a0_0 a0_1 a0_2 a0_3) else (if (wrap64 (a0_2 + (wrap64 (2 * t345)))) ≤ 0 then (rect_Grow.j0 k t345 true a0_0 a0_1 a0_2 a0_3) else (rect_Grow.j0 k t345 (decide ((wrap64 (a0_3 + (wrap64 (2 * t345)))) ≤ 0)) a0_0 a0_1 a0_2 a0_3))))) = some (r1, r2, r3, r4) := h
 clear h
 replace H := Option.bind_eq_some_iff.mp H
 obtain ⟨t345, A30, H⟩ := H
 try dsimp only at H
 have A3 := Aside0.mk A30
 clear A30
 have HC4 := Aside0.mk H
 clear H
 go_enter Try.func43, Try.ntmps43
 go_upto_region 2 with (first | ((with_reducible refine gate_dst (N := 2) rfl ?_); refine box_event ?hg (N := 2) ?hd (cs := #[.int .i64 a0_0, .int .i64 a0_1, .int .i64 a0_2, .int .i64 a0_3]) (t := 27) ?hr ?_; (case hd => rfl); (case hg => rfl); (case hr => first | (go_simp; done) | (go_simp; rfl)); intro E5 hg w5 hbox hb; have J4 := zg HB hg; have J5 := zg HB hg; have n0_ := Aside0.mk (hbox); replace HB := zb HB hb; have E0 := n0_; clear n0_; clear hb hbox hg) | ((with_reducible refine gate_dst (N := 4) rfl ?_); refine box_event ?hg (N := 4) ?hd (cs := #[.int .i64 0, .int .i64 0, .int .i64 0, .int .i64 0]) (t := 27) ?hr ?_; (case hd => rfl); (case hg => rfl); (case hr => first | (go_simp; done) | (go_simp; rfl)); intro E2 hg w6 hbox hb; have J6 := zg HB hg; have E9 := zg HB hg; have E3 := zn E0 hg; have E6 := zn' E0 hg; have n0_ := Aside0.mk (hbox); replace E0 := zk E0 hb; replace HB := zb HB hb; have E1 := n0_; clear n0_; clear hb hbox hg) | ((with_reducible refine gate_callee (f := 70) rfl ?_); refine goesL_ (some 6) rfl rfl Try.func70 (by kernel_rfl) rfl #[.int .i64 a1] rfl (by (try simp only [List.map_toArray, List.map_cons, List.map_nil]); first | done | rfl | (simp only [List.length_drop, List.length_take]; rfl)) ?_; (with_reducible refine (rect_limit.calls a1 t345 _ A3.out).mono ?_); rintro e w7 ⟨rfl, hb⟩; refine ⟨_, rfl, ?_⟩; replace E0 := zk E0 hb; replace E1 := zk E1 hb; replace HB := zb HB hb; (try clear hb); (try clear hb2); (try clear hk); (try clear hi)))
 (try simp only [Act.put, sA, sB, sC])
 go_cut [24] (fun v24 wc => ∃ (kq : Nat) (x24_3 : Bool), v24 = .bool x24_3 ∧ Aside0 (rect_Grow.j0 kq t345 x24_3 a0_0 a0_1 a0_2 a0_3 = some (r1, r2, r3, r4)) ∧ Aside0 (kq ≤ k) ∧ Aside0 (wc.heap[E5]? = some (.cells #[.int .i64 a0_0, .int .i64 a0_1, .int .i64 a0_2, .int .i64 a0_3] 27 (0, 0))) ∧ Aside0 (wc.heap[E2]? = some (.cells #[.int .i64 0, .int .i64 0, .int .i64 0, .int .i64 0] 27 (0, 0))) ∧ Aside0 (Below w.heap.size w wc))
 case first =>
  have H := HC4.out
  clear HC4
  replace H := Option.bind_eq_some_iff.mp H
  obtain ⟨t346, A80, H⟩ := H
  try dsimp only at H
  have A8 := Aside0.mk A80
  clear A80
  by_cases c9 : t346 = true
  ·subst c9
   rw [if_pos rfl] at H
   have H' := Aside0.mk H
   clear H
   obtain ⟨G4, G5, G6, G7, G8, G9, V0, V1⟩ := zq4 E0
   go_wp2_with (first | ((with_reducible refine gate_callee (f := 12) rfl ?_); refine goesL_ (some 8) rfl rfl Try.func12 (by kernel_rfl) rfl #[.agg #[.int .i64 a0_0, .int .i64 a0_1, .int .i64 a0_2, .int .i64 a0_3]] rfl (by (try simp only [List.map_toArray, List.map_cons, List.map_nil]); first | done | rfl | (simp only [List.length_drop, List.length_take]; rfl)) ?_; (with_reducible refine (rect_Empty.calls a0_0 a0_1 a0_2 a0_3 true _ A8.out).mono ?_); rintro e w11 ⟨rfl, hb⟩; refine ⟨_, rfl, ?_⟩; replace E0 := zk E0 hb; replace E1 := zk E1 hb; replace HB := zb HB hb; (try clear hb)))
   go_meet
   case rel => exact ⟨_, (true), (by first | rfl | (simp; done) | (simp [*]; done)), H', ⟨by first | omega | exact Nat.le_refl _⟩, ⟨by exact zk0 E0⟩, ⟨by exact zk0 E1⟩, ⟨by exact zb0 HB⟩⟩
  replace c9 := Bool.eq_false_iff.mpr c9
  subst c9
  rw [if_neg (show ¬ (false = true) by decide)] at H
  by_cases c12 : (wrap64 (a0_2 + (wrap64 (2 * t345)))) ≤ 0
  ·rw [if_pos c12] at H
   have E4 : decide ((wrap64 (a0_2 + (wrap64 (2 * t345)))) ≤ 0) = true := decide_eq_true c12
   clear c12
   (first | rw [E4] | (simp only [i64_w, i32_w]; rw [E4]) | skip)
   have H' := Aside0.mk H
   clear H
   obtain ⟨V2, V3, V4, V5, V6, V7, V8, V9⟩ := zq4 E0
   go_wp2_with (first | ((with_reducible refine gate_callee (f := 12) rfl ?_); refine goesL_ (some 8) rfl rfl Try.func12 (by kernel_rfl) rfl #[.agg #[.int .i64 a0_0, .int .i64 a0_1, .int .i64 a0_2, .int .i64 a0_3]] rfl (by (try simp only [List.map_toArray, List.map_cons, List.map_nil]); first | done | rfl | (simp only [List.length_drop, List.length_take]; rfl)) ?_; (with_reducible refine (rect_Empty.calls a0_0 a0_1 a0_2 a0_3 false _ A8.out).mono ?_); rintro e w14 ⟨rfl, hb⟩; refine ⟨_, rfl, ?_⟩; replace E0 := zk E0 hb; replace E1 := zk E1 hb; replace HB := zb HB hb; (try clear hb); obtain ⟨Y0, Y1, Y2, Y3, Y4, Y5, Y6, Y7⟩ := zq4 E0))
   go_meet
   case rel => exact ⟨_, (true), (by first | rfl | (simp; done) | (simp [*]; done)), H', ⟨by first | omega | exact Nat.le_refl _⟩, ⟨by exact zk0 E0⟩, ⟨by exact zk0 E1⟩, ⟨by exact zb0 HB⟩⟩
  rw [if_neg c12] at H
  have E4 : decide ((wrap64 (a0_2 + (wrap64 (2 * t345)))) ≤ 0) = false := decide_eq_false c12
  clear c12
  (first | rw [E4] | (simp only [i64_w, i32_w]; rw [E4]) | skip)
  have H' := Aside0.mk H
  clear H
  obtain ⟨Y8, Y9, Z0, Z1, Z2, Z3, Z4, Z5⟩ := zq4 E0
  go_wp2_with (first | ((with_reducible refine gate_callee (f := 12) rfl ?_); refine goesL_ (some 8) rfl rfl Try.func12 (by kernel_rfl) rfl #[.agg #[.int .i64 a0_0, .int .i64 a0_1, .int .i64 a0_2, .int .i64 a0_3]] rfl (by (try simp only [List.map_toArray, List.map_cons, List.map_nil]); first | done | rfl | (simp only [List.length_drop, List.length_take]; rfl)) ?_; (with_reducible refine (rect_Empty.calls a0_0 a0_1 a0_2 a0_3 false _ A8.out).mono ?_); rintro e w17 ⟨rfl, hb⟩; refine ⟨_, rfl, ?_⟩; replace E0 := zk E0 hb; replace E1 := zk E1 hb; replace HB := zb HB hb; (try clear hb); obtain ⟨Z6, Z7, Z8, Z9, J0, J1, J2, J3⟩ := zq4 E0))
  go_meet
  case rel => exact ⟨_, (decide ((wrap64 (a0_3 + (wrap64 (2 * t345)))) ≤ 0)), (by first | rfl | (simp; done) | (simp [*]; done)), H', ⟨by first | omega | exact Nat.le_refl _⟩, ⟨by exact zk0 E0⟩, ⟨by exact zk0 E1⟩, ⟨by exact zb0 HB⟩⟩
 case rest =>
  clear HC4
  try clear c1
  try clear p2
  try clear c4
  try clear q4
  try clear p6
  try clear c7
  try clear c9
  try clear c12
  try clear E4
  try clear G4
  try clear G5
  try clear G6
  try clear G7
  try clear V2
  try clear V3
  try clear V4
  try clear V5
  try clear Y0
  try clear Y1
  try clear Y2
  try clear Y3
  try clear Y8
  try clear Y9
  try clear Z0
  try clear Z1
  try clear Z6
  try clear Z7
  try clear Z8
  try clear Z9
  try clear G8
  try clear G9
  try clear V0
  try clear V1
  try clear V6
  try clear V7
  try clear V8
  try clear V9
  try clear Y4
  try clear Y5
  try clear Y6
  try clear Y7
  try clear Z2
  try clear Z3
  try clear Z4
  try clear Z5
  try clear J0
  try clear J1
  try clear J2
  try clear J3
  obtain ⟨kq, x24_3, rfl, HA, HJ3, E0, E1, HB⟩ := hcut
  cases kq with
  | zero => exact absurd HA.out (by simp [rect_Grow.j0])
  | succ kj3 =>
   have H := HA.out
   clear HA
   simp only [rect_Grow.j0] at H
   by_cases c19 : x24_3 = true
   ·subst c19
    rw [if_pos rfl] at H
    simp only [Option.some.injEq, Prod.mk.injEq] at H
    obtain ⟨rfl, rfl, rfl, rfl⟩ := H
    have J7 := E6.out
    have J8 := E3.out
    obtain ⟨J9, L0, L1, L2, L3, L4, L5, L6⟩ := zq4 E1
    go_wp2
    refine bodyPost_ret (results_cell_row rfl _ _ E2 27 #[.int .i64 0, .int .i64 0, .int .i64 0, .int .i64 0] (0, 0) _ rfl (by exact zp E1 rfl) Try.underlying27 rfl (by kernel_rfl)) rfl ?_
    exact ⟨by first | rfl | (simp [errW_none, errW_some] <;> rfl) | (simp [*, errW_none, errW_some] <;> rfl), by exact zbo HB E9⟩
   replace c19 := Bool.eq_false_iff.mpr c19
   subst c19
   rw [if_neg (show ¬ (false = true) by decide)] at H
   replace H := Option.bind_eq_some_iff.mp H
   obtain ⟨⟨t347, t348, t349, t350⟩, A220, H⟩ := H
   try dsimp only at H
   have A22 := Aside0.mk A220
   clear A220
   replace H := Option.bind_eq_some_iff.mp H
   obtain ⟨⟨t351, t352, t353, t354⟩, A230, H⟩ := H
   try dsimp only at H
   have A23 := Aside0.mk A230
   clear A230
   simp only [Option.some.injEq, Prod.mk.injEq] at H
   obtain ⟨rfl, rfl, rfl, rfl⟩ := H
   try go_wp2
   replace E0 := zkd E0
   replace E1 := zkd E1
   replace HB := zbd HB
   refine start_ (n := 22) (S := fun w' => w'.cell? ⟨E5, 0, none⟩ = some (.int .i64 a0_0) ∧ w'.cell? ⟨E5, 1, none⟩ = some (.int .i64 a0_1) ∧ w'.cell? ⟨E5, 2, none⟩ = some (.int .i64 a0_2) ∧ w'.cell? ⟨E5, 3, none⟩ = some (.int .i64 a0_3)) (ds := []) (bs 22 0) (by kernel_rfl) rfl rfl ⟨(blk_cell E0.out 0).trans rfl, (blk_cell E0.out 1).trans rfl, (blk_cell E0.out 2).trans rfl, (blk_cell E0.out 3).trans rfl⟩ (fun hHeld => ?_); refine with_tabW rect_Grow.tab4 rect_Grow.bits4 (fun HT_ HW_ => ?_)
   generalize wc.drew = w24 at E0 E1 HB hHeld ⊢
   refine pure_ (i := 0) (N := some 26) (v := ?_) (a' := ?_) (bs 22 1) rfl rfl (any_of HT_.out (by kernel_rfl)) (fun _ _ _ h => h) (Or.inl ⟨by rfl, ?_⟩) ?_ ?_
   rotate_left
   ·intro w'
    go_simp
    with_reducible rfl
   rotate_left
   ·simp only [Act.put, sA, sB, sC, i64_w, i32_w]
    rfl
   refine pure_ (i := 2) (N := some 28) (v := ?_) (a' := ?_) (bs 22 5) rfl rfl (any_of HT_.out (by kernel_rfl)) (fun _ _ _ h => h) (Or.inl ⟨by rfl, ?_⟩) ?_ ?_
   rotate_left
   ·intro w'
    go_simp
    with_reducible rfl
   rotate_left
   ·simp only [Act.put, sA, sB, sC, i64_w, i32_w]
    rfl
   refine pure_ (i := 4) (N := some 30) (v := ?_) (a' := ?_) (bs 22 21) rfl rfl (any_of HT_.out (by kernel_rfl)) (fun _ _ _ h => h) (Or.inl ⟨by rfl, ?_⟩) ?_ ?_
   rotate_left
   ·intro w'
    go_simp
    with_reducible rfl
   rotate_left
   ·simp only [Act.put, sA, sB, sC, i64_w, i32_w]
    rfl
   refine pure_ (i := 6) (N := some 32) (v := ?_) (a' := ?_) (bs 22 85) rfl rfl (any_of HT_.out (by kernel_rfl)) (fun _ _ _ h => h) (Or.inl ⟨by rfl, ?_⟩) ?_ ?_
   rotate_left
   ·intro w'
    go_simp
    with_reducible rfl
   rotate_left
   ·simp only [Act.put, sA, sB, sC, i64_w, i32_w]
    rfl
   refine pure_ (i := 8) (N := some 34) (v := ?_) (a' := ?_) (bs 22 341) rfl rfl (any_of HT_.out (by kernel_rfl)) (fun _ _ _ h => h) (Or.inl ⟨by rfl, ?_⟩) ?_ ?_
   rotate_left
   ·intro w'
    go_simp
    with_reducible rfl
   rotate_left
   ·simp only [Act.put, sA, sB, sC, i64_w, i32_w]
    rfl
   refine pure_ (i := 10) (N := some 36) (v := ?_) (a' := ?_) (bs 22 1365) rfl rfl (any_of HT_.out (by kernel_rfl)) (fun _ _ _ h => h) (Or.inl ⟨by rfl, ?_⟩) ?_ ?_
   rotate_left
   ·intro w'
    go_simp
    with_reducible rfl
   rotate_left
   ·simp only [Act.put, sA, sB, sC, i64_w, i32_w]
    rfl
   refine pure_ (i := 11) (N := some 37) (v := ?_) (a' := ?_) (bs 22 3413) rfl rfl (any_of HT_.out (by kernel_rfl)) (fun _ _ _ h => h) (Or.inl ⟨by rfl, ?_⟩) ?_ ?_
   rotate_left
   ·intro w'
    go_simp
    with_reducible rfl
   rotate_left
   ·simp only [Act.put, sA, sB, sC, i64_w, i32_w]
    rfl
   refine pure_ (i := 13) (N := some 39) (v := ?_) (a' := ?_) (bs 22 11605) rfl rfl (any_of HT_.out (by kernel_rfl)) (fun _ _ _ h => h) (Or.inl ⟨by rfl, ?_⟩) ?_ ?_
   rotate_left
   ·intro w'
    go_simp
    with_reducible rfl
   rotate_left
   ·simp only [Act.put, sA, sB, sC, i64_w, i32_w]
    rfl
   refine pure_ (i := 15) (N := some 41) (v := ?_) (a' := ?_) (bs 22 44373) rfl rfl (any_of HT_.out (by kernel_rfl)) (fun _ _ _ h => h) (Or.inl ⟨by rfl, ?_⟩) ?_ ?_
   rotate_left
   ·intro w'
    go_simp
    with_reducible rfl
   rotate_left
   ·simp only [Act.put, sA, sB, sC, i64_w, i32_w]
    rfl
   refine pure_ (i := 16) (N := some 42) (v := ?_) (a' := ?_) (bs 22 109909) rfl rfl (any_of HT_.out (by kernel_rfl)) (fun _ _ _ h => h) (Or.inl ⟨by rfl, ?_⟩) ?_ ?_
   rotate_left
   ·intro w'
    go_simp
    with_reducible rfl
   rotate_left
   ·simp only [Act.put, sA, sB, sC, i64_w, i32_w]
    rfl
   refine take_ (i := 1) (N := some 27) (v := ?_) (a' := ?_) (bs 22 109911) rfl rfl (take_ofW HT_.out HW_.out (by kernel_rfl)) (fun _ _ _ h => h) (Or.inl ⟨by rfl, ?_⟩) hHeld ?_ ?_
   rotate_left
   ·rintro w' ⟨s0, s1, s2, s3⟩
    go_simp
    with_reducible rfl
   rotate_left
   ·simp only [Act.put, sA, sB, sC, i64_w, i32_w]
    rfl
   refine pure_ (i := 3) (N := some 29) (v := ?_) (a' := ?_) (bs 22 109919) rfl rfl (any_of HT_.out (by kernel_rfl)) (fun _ _ _ h => h) (Or.inl ⟨by rfl, ?_⟩) ?_ ?_
   rotate_left
   ·intro w'
    go_simp
    with_reducible rfl
   rotate_left
   ·simp only [Act.put, sA, sB, sC, i64_w, i32_w]
    rfl
   refine take_ (i := 5) (N := some 31) (v := ?_) (a' := ?_) (bs 22 109951) rfl rfl (take_ofW HT_.out HW_.out (by kernel_rfl)) (fun _ _ _ h => h) (Or.inl ⟨by rfl, ?_⟩) hHeld ?_ ?_
   rotate_left
   ·rintro w' ⟨s0, s1, s2, s3⟩
    go_simp
    with_reducible rfl
   rotate_left
   ·simp only [Act.put, sA, sB, sC, i64_w, i32_w]
    rfl
   refine pure_ (i := 7) (N := some 33) (v := ?_) (a' := ?_) (bs 22 110079) rfl rfl (any_of HT_.out (by kernel_rfl)) (fun _ _ _ h => h) (Or.inl ⟨by rfl, ?_⟩) ?_ ?_
   rotate_left
   ·intro w'
    go_simp
    with_reducible rfl
   rotate_left
   ·simp only [Act.put, sA, sB, sC, i64_w, i32_w]
    rfl
   refine take_ (i := 9) (N := some 35) (v := ?_) (a' := ?_) (bs 22 110591) rfl rfl (take_ofW HT_.out HW_.out (by kernel_rfl)) (fun _ _ _ h => h) (Or.inl ⟨by rfl, ?_⟩) hHeld ?_ ?_
   rotate_left
   ·rintro w' ⟨s0, s1, s2, s3⟩
    go_simp
    with_reducible rfl
   rotate_left
   ·simp only [Act.put, sA, sB, sC, i64_w, i32_w]
    rfl
   refine pure_ (i := 12) (N := some 38) (v := ?_) (a' := ?_) (bs 22 114687) rfl rfl (any_of HT_.out (by kernel_rfl)) (fun _ _ _ h => h) (Or.inl ⟨by rfl, ?_⟩) ?_ ?_
   rotate_left
   ·intro w'
    go_simp
    with_reducible rfl
   rotate_left
   ·simp only [Act.put, sA, sB, sC, i64_w, i32_w]
    rfl
   refine take_ (i := 14) (N := some 40) (v := ?_) (a' := ?_) (bs 22 131071) rfl rfl (take_ofW HT_.out HW_.out (by kernel_rfl)) (fun _ _ _ h => h) (Or.inl ⟨by rfl, ?_⟩) hHeld ?_ ?_
   rotate_left
   ·rintro w' ⟨s0, s1, s2, s3⟩
    go_simp
    with_reducible rfl
   rotate_left
   ·simp only [Act.put, sA, sB, sC, i64_w, i32_w]
    rfl
   refine pure_ (i := 17) (N := some 43) (v := ?_) (a' := ?_) (bs 22 262143) rfl rfl (any_of HT_.out (by kernel_rfl)) (fun _ _ _ h => h) (Or.inl ⟨by rfl, ?_⟩) ?_ ?_
   rotate_left
   ·intro w'
    go_simp
    with_reducible rfl
   rotate_left
   ·simp only [Act.put, sA, sB, sC, i64_w, i32_w]
    rfl
   refine pure_ (i := 18) (N := some 44) (v := ?_) (a' := ?_) (bs 22 524287) rfl rfl (any_of HT_.out (by kernel_rfl)) (fun _ _ _ h => h) (Or.inl ⟨by rfl, ?_⟩) ?_ ?_
   rotate_left
   ·intro w'
    go_simp
    with_reducible rfl
   rotate_left
   ·simp only [Act.put, sA, sB, sC, i64_w, i32_w]
    rfl
   refine one_ (i := 19) (N := some 45) (bs 22 1048575) rfl rfl (one_of HT_.out (by kernel_rfl)) (by decide) (fun K hK => ?_)
   refine goes_ Try.func71 (by kernel_rfl) rfl #[] (by rfl) rfl rfl (by (try simp only [List.map_toArray, List.map_cons, List.map_nil]); first | done | rfl | (simp only [List.length_drop, List.length_take]; rfl)) ?_
   with_reducible refine (rect_world.calls  t347 t348 t349 t350 _ A22.out).mono ?_
   rintro e w25 ⟨rfl, hb⟩
   refine ⟨_, rfl, ?_⟩
   replace E0 := zk E0 hb
   replace E1 := zk E1 hb
   replace HB := zb HB hb
   (try clear hb)
   (try clear hb2)
   (try clear hk)
   (try clear hi)
   refine hK.out _ _ ⟨(blk_cell E0.out 0).trans rfl, (blk_cell E0.out 1).trans rfl, (blk_cell E0.out 2).trans rfl, (blk_cell E0.out 3).trans rfl⟩ (fun hHeld => ?_)
   clear hK K
   refine norm_ (a' := ?_) ?_ ?_
   rotate_left
   ·show Act.put _ (some 45) _ = _
    simp only [Act.put, sA, sB, sC, i64_w, i32_w]
    rfl
   refine one_ (i := 20) (N := some 46) (bs 22 2097151) rfl rfl (one_of HT_.out (by kernel_rfl)) (by decide) (fun K hK => ?_)
   refine goes_ Try.func33 (by kernel_rfl) rfl #[.agg #[.int .i64 (wrap64 (a0_0 - t345)), .int .i64 (wrap64 (a0_1 - t345)), .int .i64 (wrap64 (a0_2 + (wrap64 (2 * t345)))), .int .i64 (wrap64 (a0_3 + (wrap64 (2 * t345))))], .agg #[.int .i64 t347, .int .i64 t348, .int .i64 t349, .int .i64 t350]] (by rfl) rfl rfl (by (try simp only [List.map_toArray, List.map_cons, List.map_nil]); first | done | rfl | (simp only [List.length_drop, List.length_take]; rfl)) ?_
   with_reducible refine (rect_meet.calls (wrap64 (a0_0 - t345)) (wrap64 (a0_1 - t345)) (wrap64 (a0_2 + (wrap64 (2 * t345)))) (wrap64 (a0_3 + (wrap64 (2 * t345)))) t347 t348 t349 t350 t351 t352 t353 t354 _ A23.out).mono ?_
   rintro e w26 ⟨rfl, hb⟩
   refine ⟨_, rfl, ?_⟩
   replace E0 := zk E0 hb
   replace E1 := zk E1 hb
   replace HB := zb HB hb
   (try clear hb)
   (try clear hb2)
   (try clear hk)
   (try clear hi)
   refine hK.out _ _ ⟨(blk_cell E0.out 0).trans rfl, (blk_cell E0.out 1).trans rfl, (blk_cell E0.out 2).trans rfl, (blk_cell E0.out 3).trans rfl⟩ (fun hHeld => ?_)
   clear hK K
   refine norm_ (a' := ?_) ?_ ?_
   rotate_left
   ·show Act.put _ (some 46) _ = _
    simp only [Act.put, sA, sB, sC, i64_w, i32_w]
    rfl
   refine one_ (i := 21) (N := none) (bs 22 4194303) rfl rfl (one_of HT_.out (by kernel_rfl)) (by decide) (fun K hK => ?_)
   have hs27 : w26.cell? ⟨E2, 0, none⟩ = some (.int .i64 0) := (blk_cell E1.out 0).trans rfl
   have hfs27 := blk_frozen E1.out 0
   have L7 := E3.out
   have L8 := E6.out
   have hs28 : w26.cell? ⟨E2, 1, none⟩ = some (.int .i64 0) := (blk_cell E1.out 1).trans rfl
   have hfs28 := blk_frozen E1.out 1
   have L9 := E3.out
   have Q0 := E6.out
   have hs29 : w26.cell? ⟨E2, 2, none⟩ = some (.int .i64 0) := (blk_cell E1.out 2).trans rfl
   have hfs29 := blk_frozen E1.out 2
   have Q1 := E3.out
   have Q2 := E6.out
   have hs30 : w26.cell? ⟨E2, 3, none⟩ = some (.int .i64 0) := (blk_cell E1.out 3).trans rfl
   have hfs30 := blk_frozen E1.out 3
   have Q3 := E3.out
   have Q4 := E6.out
   refine skip_ (w1 := ?_) (by rfl) rfl ?_ ?_
   rotate_left
   ·go_simp
    rfl
   refine hK.out _ _ ⟨((cell_far (p := ⟨E2, _, none⟩) E3.out _).trans (((cell_far (p := ⟨E2, _, none⟩) E3.out _).trans (((cell_far (p := ⟨E2, _, none⟩) E3.out _).trans (((cell_far (p := ⟨E2, _, none⟩) E3.out _).trans (hHeld.1)))))))), ((cell_far (p := ⟨E2, _, none⟩) E3.out _).trans (((cell_far (p := ⟨E2, _, none⟩) E3.out _).trans (((cell_far (p := ⟨E2, _, none⟩) E3.out _).trans (((cell_far (p := ⟨E2, _, none⟩) E3.out _).trans (hHeld.2.1)))))))), ((cell_far (p := ⟨E2, _, none⟩) E3.out _).trans (((cell_far (p := ⟨E2, _, none⟩) E3.out _).trans (((cell_far (p := ⟨E2, _, none⟩) E3.out _).trans (((cell_far (p := ⟨E2, _, none⟩) E3.out _).trans (hHeld.2.2.1)))))))), ((cell_far (p := ⟨E2, _, none⟩) E3.out _).trans (((cell_far (p := ⟨E2, _, none⟩) E3.out _).trans (((cell_far (p := ⟨E2, _, none⟩) E3.out _).trans (((cell_far (p := ⟨E2, _, none⟩) E3.out _).trans (hHeld.2.2.2))))))))⟩ (fun hHeld => ?_)
   clear hK K
   refine done_ (done_of HT_.out (by kernel_rfl)) ?_
   try go_wp2
   refine bodyPost_ret (results_cell_row rfl _ _ E2 27 #[.int .i64 t351, .int .i64 t352, .int .i64 t353, .int .i64 t354] (0, 0) _ rfl (by exact zp E1 rfl) Try.underlying27 rfl (by kernel_rfl)) rfl ?_
   exact ⟨by first | rfl | (simp [errW_none, errW_some] <;> rfl) | (simp [*, errW_none, errW_some] <;> rfl), by exact zbo HB E9⟩

/-! ### sample_Needs: function 22 -/
def sample_Needs.f (k : Nat) (a0_0 : Int) (a0_1 : Int) (a0_2 : Int) (a0_3 : Int) (a0_4 : Int) (a0_5 : Int) (a1 : Int) (a2_0 : Int) (a2_1 : Int) (a2_2 : Int) (a2_3 : Int) : Option (Int × Int × Int × Int × Int) := (rect_Valid.f a2_0 a2_1 a2_2 a2_3).bind fun t358 => (if t358 = true then ((kernel_Valid.f a1).bind fun t359 => (if t359 = true then ((affine_Inverse.f k a0_0 a0_1 a0_2 a0_3 a0_4 a0_5).bind fun E8 => (if E8.2.2.2.2.2.2 = 0 then ((affine_Box.f k E8.1 E8.2.1 E8.2.2.1 E8.2.2.2.1 E8.2.2.2.2.1 E8.2.2.2.2.2.1 a2_0 a2_1 a2_2 a2_3).bind fun G0 => (if G0.2.2.2.2 = 0 then ((kernel_Support.f a1).bind fun t374 => ((rect_Grow.f k G0.1 G0.2.1 G0.2.2.1 G0.2.2.2.1 (wrap64 (t374 + 1))).bind fun G6 => (some (G6.1, G6.2.1, G6.2.2.1, G6.2.2.2, 0)))) else (some (0, 0, 0, 0, G0.2.2.2.2)))) else (some (0, 0, 0, 0, E8.2.2.2.2.2.2)))) else (some (0, 0, 0, 0, 8)))) else (some (0, 0, 0, 0, 2)))
theorem sample_Needs.mono : ∀ a0 a1 a2 a3 a4 a5 a6 a7 a8 a9 a10 k, LeO (sample_Needs.f k a0 a1 a2 a3 a4 a5 a6 a7 a8 a9 a10) (sample_Needs.f (k + 1) a0 a1 a2 a3 a4 a5 a6 a7 a8 a9 a10) := by
 intro a0 a1 a2 a3 a4 a5 a6 a7 a8 a9 a10 k
 unfold sample_Needs.f
 repeat' first
   | (with_reducible exact affine_Box.mono _ _ _ _ _ _ _ _ _ _ _)
   | (with_reducible exact affine_Inverse.mono _ _ _ _ _ _ _)
   | (with_reducible exact rect_Grow.mono _ _ _ _ _ _)
   | (with_reducible exact LeO.refl _)
   | (with_reducible exact LeO.none _)
   | (with_reducible refine LeO.ite ?_ ?_)
   | (with_reducible refine LeO.bind ?_ (fun _ => ?_))
   | exact affine_Box.mono _ _ _ _ _ _ _ _ _ _ _
   | exact affine_Inverse.mono _ _ _ _ _ _ _
   | exact rect_Grow.mono _ _ _ _ _ _
   | exact LeO.none _
   | refine LeO.ite ?_ ?_
   | refine LeO.bind ?_ (fun _ => ?_)
set_option maxHeartbeats 8000000 in
set_option maxRecDepth 100000 in
theorem sample_Needs.calls (k : Nat) (a0_0 : Int) (a0_1 : Int) (a0_2 : Int) (a0_3 : Int) (a0_4 : Int) (a0_5 : Int) (a1 : Int) (a2_0 : Int) (a2_1 : Int) (a2_2 : Int) (a2_3 : Int) (r1 : Int) (r2 : Int) (r3 : Int) (r4 : Int) (r5 : Int) (w : World) (h : sample_Needs.f k a0_0 a0_1 a0_2 a0_3 a0_4 a0_5 a1 a2_0 a2_1 a2_2 a2_3 = some (r1, r2, r3, r4, r5)) :
  Calls Try.prog 22 #[.agg #[.int .i64 a0_0, .int .i64 a0_1, .int .i64 a0_2, .int .i64 a0_3, .int .i64 a0_4, .int .i64 a0_5], .int .i64 a1, .agg #[.int .i64 a2_0, .int .i64 a2_1, .int .i64 a2_2, .int .i64 a2_3]] w fun e w' => e = .returned (.tuple #[.agg #[.int .i64 r1, .int .i64 r2, .int .i64 r3, .int .i64 r4], .int .i64 r5]) ∧ Below w.heap.size w w' := by
 have hu32 := Try.underlying32
 have hu27 := Try.underlying27
 have HB := Aside0.mk (Below.refl w.heap.size w)
 have H : ((rect_Valid.f a2_0 a2_1 a2_2 a2_3).bind fun t358 => (if t358 = true then ((kernel_Valid.f a1).bind fun t359 => (if t359 = true then ((affine_Inverse.f k a0_0 a0_1 a0_2 a0_3 a0_4 a0_5).bind fun E8 => (if E8.2.2.2.2.2.2 = 0 then ((affine_Box.f k E8.1 E8.2.1 E8.2.2.1 E8.2.2.2.1 E8.2.2.2.2.1 E8.2.2.2.2.2.1 a2_0 a2_1 a2_2 a2_3).bind fun G0 => (if G0.2.2.2.2 = 0 then ((kernel_Support.f a1).bind fun t374 => ((rect_Grow.f k G0.1 G0.2.1 G0.2.2.1 G0.2.2.2.1 (wrap64 (t374 + 1))).bind fun G6 => (some (G6.1, G6.2.1, G6.2.2.1, G6.2.2.2, 0)))) else (some (0, 0, 0, 0, G0.2.2.2.2)))) else (some (0, 0, 0, 0, E8.2.2.2.2.2.2)))) else (some (0, 0, 0, 0, 8)))) else (some (0, 0, 0, 0, 2)))) = some (r1, r2, r3, r4, r5) := h
 clear h
 replace H := Option.bind_eq_some_iff.mp H
 obtain ⟨t358, A40, H⟩ := H
 try dsimp only at H
 have A4 := Aside0.mk A40
 clear A40
 by_cases c5 : t358 = true
 rotate_left
 ·replace c5 := Bool.eq_false_iff.mpr c5
  subst c5
  rw [if_neg (show ¬ (false = true) by decide)] at H
  simp only [Option.some.injEq, Prod.mk.injEq] at H
  obtain ⟨rfl, rfl, rfl, rfl, rfl⟩ := H
  go_enter Try.func22, Try.ntmps22
  go_wp2_with (first | ((with_reducible refine gate_dst (N := 3) rfl ?_); refine box_event ?hg (N := 3) ?hd (cs := #[.int .i64 a0_0, .int .i64 a0_1, .int .i64 a0_2, .int .i64 a0_3, .int .i64 a0_4, .int .i64 a0_5]) (t := 32) ?hr ?_; (case hd => rfl); (case hg => rfl); (case hr => first | (go_simp; done) | (go_simp; rfl)); intro G7 hg w93 hbox hb; have V9 := zg HB hg; have Y0 := zg HB hg; have n0_ := Aside0.mk (hbox); replace HB := zb HB hb; have E0 := n0_; clear n0_; clear hb hbox hg) | ((with_reducible refine gate_dst (N := 5) rfl ?_); refine box_event ?hg (N := 5) ?hd (cs := #[.int .i64 a2_0, .int .i64 a2_1, .int .i64 a2_2, .int .i64 a2_3]) (t := 27) ?hr ?_; (case hd => rfl); (case hg => rfl); (case hr => first | (go_simp; done) | (go_simp; rfl)); intro G8 hg w94 hbox hb; have Y1 := zg HB hg; have Y2 := zg HB hg; have G9 := zn E0 hg; have V0 := zn' E0 hg; have n0_ := Aside0.mk (hbox); replace E0 := zk E0 hb; replace HB := zb HB hb; have E1 := n0_; clear n0_; clear hb hbox hg) | ((with_reducible refine gate_dst (N := 6) rfl ?_); refine box_event ?hg (N := 6) ?hd (cs := #[.int .i64 0, .int .i64 0, .int .i64 0, .int .i64 0]) (t := 27) ?hr ?_; (case hd => rfl); (case hg => rfl); (case hr => first | (go_simp; done) | (go_simp; rfl)); intro E3 hg w95 hbox hb; have Y3 := zg HB hg; have V1 := zg HB hg; have G1 := zn E0 hg; have G2 := zn' E0 hg; have G3 := zn E1 hg; have G4 := zn' E1 hg; have n0_ := Aside0.mk (hbox); replace E0 := zk E0 hb; replace E1 := zk E1 hb; replace HB := zb HB hb; have E2 := n0_; clear n0_; clear hb hbox hg; have Z7 := V0.out; have Z8 := G9.out; have Z9 := G3.out; have J0 := G4.out; obtain ⟨J1, J2, J3, J4, J5, J6, J7, J8⟩ := zq4 E1) | ((with_reducible refine gate_callee (f := 24) rfl ?_); refine goesL_ (some 12) rfl rfl Try.func24 (by kernel_rfl) rfl #[.agg #[.int .i64 a2_0, .int .i64 a2_1, .int .i64 a2_2, .int .i64 a2_3]] rfl (by (try simp only [List.map_toArray, List.map_cons, List.map_nil]); first | done | rfl | (simp only [List.length_drop, List.length_take]; rfl)) ?_; (with_reducible refine (rect_Valid.calls a2_0 a2_1 a2_2 a2_3 false _ A4.out).mono ?_); rintro e w99 ⟨rfl, hb⟩; refine ⟨_, rfl, ?_⟩; replace E0 := zk E0 hb; replace E1 := zk E1 hb; replace E2 := zk E2 hb; replace HB := zb HB hb; (try clear hb); have J9 := G2.out; have L0 := G1.out; obtain ⟨L1, L2, L3, L4, L5, L6, L7, L8⟩ := zq4 E2))
  refine bodyPost_ret (results_ct rfl _ _ E3 27 #[.int .i64 0, .int .i64 0, .int .i64 0, .int .i64 0] (0, 0) _ rfl (by exact zp E2 rfl) Try.underlying27 rfl (by kernel_rfl)) rfl ?_
  exact ⟨by first | rfl | (simp [errW_none, errW_some] <;> rfl) | (simp [*, errW_none, errW_some] <;> rfl), by exact zbo HB V1⟩

 subst c5
 rw [if_pos rfl] at H
 replace H := Option.bind_eq_some_iff.mp H
 obtain ⟨t359, A60, H⟩ := H
 try dsimp only at H
 have A6 := Aside0.mk A60
 clear A60
 by_cases c7 : t359 = true
 rotate_left
 ·replace c7 := Bool.eq_false_iff.mpr c7
  subst c7
  rw [if_neg (show ¬ (false = true) by decide)] at H
  simp only [Option.some.injEq, Prod.mk.injEq] at H
  obtain ⟨rfl, rfl, rfl, rfl, rfl⟩ := H
  go_enter Try.func22, Try.ntmps22
  go_wp2_with (first | ((with_reducible refine gate_dst (N := 3) rfl ?_); refine box_event ?hg (N := 3) ?hd (cs := #[.int .i64 a0_0, .int .i64 a0_1, .int .i64 a0_2, .int .i64 a0_3, .int .i64 a0_4, .int .i64 a0_5]) (t := 32) ?hr ?_; (case hd => rfl); (case hg => rfl); (case hr => first | (go_simp; done) | (go_simp; rfl)); intro G7 hg w84 hbox hb; have V9 := zg HB hg; have Y0 := zg HB hg; have n0_ := Aside0.mk (hbox); replace HB := zb HB hb; have E0 := n0_; clear n0_; clear hb hbox hg) | ((with_reducible refine gate_dst (N := 5) rfl ?_); refine box_event ?hg (N := 5) ?hd (cs := #[.int .i64 a2_0, .int .i64 a2_1, .int .i64 a2_2, .int .i64 a2_3]) (t := 27) ?hr ?_; (case hd => rfl); (case hg => rfl); (case hr => first | (go_simp; done) | (go_simp; rfl)); intro G8 hg w85 hbox hb; have Y1 := zg HB hg; have Y2 := zg HB hg; have G9 := zn E0 hg; have V0 := zn' E0 hg; have n0_ := Aside0.mk (hbox); replace E0 := zk E0 hb; replace HB := zb HB hb; have E1 := n0_; clear n0_; clear hb hbox hg) | ((with_reducible refine gate_dst (N := 6) rfl ?_); refine box_event ?hg (N := 6) ?hd (cs := #[.int .i64 0, .int .i64 0, .int .i64 0, .int .i64 0]) (t := 27) ?hr ?_; (case hd => rfl); (case hg => rfl); (case hr => first | (go_simp; done) | (go_simp; rfl)); intro E3 hg w86 hbox hb; have Y3 := zg HB hg; have V1 := zg HB hg; have G1 := zn E0 hg; have G2 := zn' E0 hg; have G3 := zn E1 hg; have G4 := zn' E1 hg; have n0_ := Aside0.mk (hbox); replace E0 := zk E0 hb; replace E1 := zk E1 hb; replace HB := zb HB hb; have E2 := n0_; clear n0_; clear hb hbox hg; have L9 := V0.out; have Q0 := G9.out; have Q1 := G3.out; have Q2 := G4.out; obtain ⟨Q3, Q4, Q5, Q6, Q7, Q8, Q9, E0a⟩ := zq4 E1) | ((with_reducible refine gate_callee (f := 24) rfl ?_); refine goesL_ (some 12) rfl rfl Try.func24 (by kernel_rfl) rfl #[.agg #[.int .i64 a2_0, .int .i64 a2_1, .int .i64 a2_2, .int .i64 a2_3]] rfl (by (try simp only [List.map_toArray, List.map_cons, List.map_nil]); first | done | rfl | (simp only [List.length_drop, List.length_take]; rfl)) ?_; (with_reducible refine (rect_Valid.calls a2_0 a2_1 a2_2 a2_3 true _ A4.out).mono ?_); rintro e w90 ⟨rfl, hb⟩; refine ⟨_, rfl, ?_⟩; replace E0 := zk E0 hb; replace E1 := zk E1 hb; replace E2 := zk E2 hb; replace HB := zb HB hb; (try clear hb)) | ((with_reducible refine gate_callee (f := 25) rfl ?_); refine goesL_ (some 16) rfl rfl Try.func25 (by kernel_rfl) rfl #[.int .i64 a1] rfl (by (try simp only [List.map_toArray, List.map_cons, List.map_nil]); first | done | rfl | (simp only [List.length_drop, List.length_take]; rfl)) ?_; (with_reducible refine (kernel_Valid.calls a1 false _ A6.out).mono ?_); rintro e w' ⟨rfl, ⟨nd, rfl⟩⟩; refine ⟨_, rfl, ?_⟩; (try (rw [drewN_self w90]; generalize hq_ : World.drewN w90 _ = w90; have n0_ : Aside0 (w90.heap[G7]? = some (.cells #[.int .i64 a0_0, .int .i64 a0_1, .int .i64 a0_2, .int .i64 a0_3, .int .i64 a0_4, .int .i64 a0_5] 32 (0, 0))) := ⟨by rw [← hq_]; exact (by exact zk0 E0)⟩; have n1_ : Aside0 (w90.heap[G8]? = some (.cells #[.int .i64 a2_0, .int .i64 a2_1, .int .i64 a2_2, .int .i64 a2_3] 27 (0, 0))) := ⟨by rw [← hq_]; exact (by exact zk0 E1)⟩; have n2_ : Aside0 (w90.heap[E3]? = some (.cells #[.int .i64 0, .int .i64 0, .int .i64 0, .int .i64 0] 27 (0, 0))) := ⟨by rw [← hq_]; exact (by exact zk0 E2)⟩; have n3_ : Aside0 (Below w.heap.size w w90) := ⟨by rw [← hq_]; exact (by exact zb0 HB)⟩; clear E0 E1 E2 HB hq_; have E0 := n0_; have E1 := n1_; have E2 := n2_; have HB := n3_; clear n0_ n1_ n2_ n3_)); have E0b := G2.out; have E0c := G1.out; obtain ⟨E0d, E0e, E0f, E0g, E0h, E0i, E0j, E0k⟩ := zq4 E2))
  refine bodyPost_ret (results_ct rfl _ _ E3 27 #[.int .i64 0, .int .i64 0, .int .i64 0, .int .i64 0] (0, 0) _ rfl (by exact zp E2 rfl) Try.underlying27 rfl (by kernel_rfl)) rfl ?_
  exact ⟨by first | rfl | (simp [errW_none, errW_some] <;> rfl) | (simp [*, errW_none, errW_some] <;> rfl), by exact zbo HB V1⟩
 subst c7
 rw [if_pos rfl] at H
 replace H := Option.bind_eq_some_iff.mp H
 obtain ⟨⟨t360, t361, t362, t363, t364, t365, t366⟩, A80, H⟩ := H
 try dsimp only at H
 have A8 := Aside0.mk A80
 clear A80
 by_cases c9 : t366 = 0
 rotate_left
 ·rw [if_neg c9] at H
  have Z2 : (t366 == 0) = false := beq_eq_false_iff_ne.mpr c9
  have Z3 : (t366 != 0) = true := bne_iff_ne.mpr c9
  simp only [Option.some.injEq, Prod.mk.injEq] at H
  obtain ⟨rfl, rfl, rfl, rfl, rfl⟩ := H
  go_enter Try.func22, Try.ntmps22
  go_wp2_with (first | ((with_reducible refine gate_dst (N := 3) rfl ?_); refine box_event ?hg (N := 3) ?hd (cs := #[.int .i64 a0_0, .int .i64 a0_1, .int .i64 a0_2, .int .i64 a0_3, .int .i64 a0_4, .int .i64 a0_5]) (t := 32) ?hr ?_; (case hd => rfl); (case hg => rfl); (case hr => first | (go_simp; done) | (go_simp; rfl)); intro G7 hg w68 hbox hb; have V9 := zg HB hg; have Y0 := zg HB hg; have n0_ := Aside0.mk (hbox); replace HB := zb HB hb; have E0 := n0_; clear n0_; clear hb hbox hg) | ((with_reducible refine gate_dst (N := 5) rfl ?_); refine box_event ?hg (N := 5) ?hd (cs := #[.int .i64 a2_0, .int .i64 a2_1, .int .i64 a2_2, .int .i64 a2_3]) (t := 27) ?hr ?_; (case hd => rfl); (case hg => rfl); (case hr => first | (go_simp; done) | (go_simp; rfl)); intro G8 hg w69 hbox hb; have Y1 := zg HB hg; have Y2 := zg HB hg; have G9 := zn E0 hg; have V0 := zn' E0 hg; have n0_ := Aside0.mk (hbox); replace E0 := zk E0 hb; replace HB := zb HB hb; have E1 := n0_; clear n0_; clear hb hbox hg) | ((with_reducible refine gate_dst (N := 6) rfl ?_); refine box_event ?hg (N := 6) ?hd (cs := #[.int .i64 0, .int .i64 0, .int .i64 0, .int .i64 0]) (t := 27) ?hr ?_; (case hd => rfl); (case hg => rfl); (case hr => first | (go_simp; done) | (go_simp; rfl)); intro E3 hg w70 hbox hb; have Y3 := zg HB hg; have V1 := zg HB hg; have G1 := zn E0 hg; have G2 := zn' E0 hg; have G3 := zn E1 hg; have G4 := zn' E1 hg; have n0_ := Aside0.mk (hbox); replace E0 := zk E0 hb; replace E1 := zk E1 hb; replace HB := zb HB hb; have E2 := n0_; clear n0_; clear hb hbox hg; have E0l := V0.out; have E0m := G9.out; have E0n := G3.out; have E0o := G4.out; obtain ⟨E0p, E0q, E0r, E0s, E0t, E0u, E0v, E0w⟩ := zq4 E1) | ((with_reducible refine gate_callee (f := 24) rfl ?_); refine goesL_ (some 12) rfl rfl Try.func24 (by kernel_rfl) rfl #[.agg #[.int .i64 a2_0, .int .i64 a2_1, .int .i64 a2_2, .int .i64 a2_3]] rfl (by (try simp only [List.map_toArray, List.map_cons, List.map_nil]); first | done | rfl | (simp only [List.length_drop, List.length_take]; rfl)) ?_; (with_reducible refine (rect_Valid.calls a2_0 a2_1 a2_2 a2_3 true _ A4.out).mono ?_); rintro e w74 ⟨rfl, hb⟩; refine ⟨_, rfl, ?_⟩; replace E0 := zk E0 hb; replace E1 := zk E1 hb; replace E2 := zk E2 hb; replace HB := zb HB hb; (try clear hb)) | ((with_reducible refine gate_callee (f := 25) rfl ?_); refine goesL_ (some 16) rfl rfl Try.func25 (by kernel_rfl) rfl #[.int .i64 a1] rfl (by (try simp only [List.map_toArray, List.map_cons, List.map_nil]); first | done | rfl | (simp only [List.length_drop, List.length_take]; rfl)) ?_; (with_reducible refine (kernel_Valid.calls a1 true _ A6.out).mono ?_); rintro e w' ⟨rfl, ⟨nd, rfl⟩⟩; refine ⟨_, rfl, ?_⟩; (try (rw [drewN_self w74]; generalize hq_ : World.drewN w74 _ = w74; have n0_ : Aside0 (w74.heap[G7]? = some (.cells #[.int .i64 a0_0, .int .i64 a0_1, .int .i64 a0_2, .int .i64 a0_3, .int .i64 a0_4, .int .i64 a0_5] 32 (0, 0))) := ⟨by rw [← hq_]; exact (by exact zk0 E0)⟩; have n1_ : Aside0 (w74.heap[G8]? = some (.cells #[.int .i64 a2_0, .int .i64 a2_1, .int .i64 a2_2, .int .i64 a2_3] 27 (0, 0))) := ⟨by rw [← hq_]; exact (by exact zk0 E1)⟩; have n2_ : Aside0 (w74.heap[E3]? = some (.cells #[.int .i64 0, .int .i64 0, .int .i64 0, .int .i64 0] 27 (0, 0))) := ⟨by rw [← hq_]; exact (by exact zk0 E2)⟩; have n3_ : Aside0 (Below w.heap.size w w74) := ⟨by rw [← hq_]; exact (by exact zb0 HB)⟩; clear E0 E1 E2 HB hq_; have E0 := n0_; have E1 := n1_; have E2 := n2_; have HB := n3_; clear n0_ n1_ n2_ n3_)); have E0x := G1.out; have E0y := G2.out; obtain ⟨E0z, E0A, E0B, E0C, E0D, E0E, E0F, E0G, E0H, E0I, E0J, E0K⟩ := zq6 E0) | ((with_reducible refine gate_callee (f := 26) rfl ?_); refine goesL_ (some 21) rfl rfl Try.func26 (by kernel_rfl) rfl #[.agg #[.int .i64 a0_0, .int .i64 a0_1, .int .i64 a0_2, .int .i64 a0_3, .int .i64 a0_4, .int .i64 a0_5]] rfl (by (try simp only [List.map_toArray, List.map_cons, List.map_nil]); first | done | rfl | (simp only [List.length_drop, List.length_take]; rfl)) ?_; (with_reducible refine (affine_Inverse.calls k a0_0 a0_1 a0_2 a0_3 a0_4 a0_5 t360 t361 t362 t363 t364 t365 t366 _ A8.out).mono ?_); rintro e w77 ⟨rfl, hb⟩; refine ⟨_, rfl, ?_⟩; replace E0 := zk E0 hb; replace E1 := zk E1 hb; replace E2 := zk E2 hb; replace HB := zb HB hb; (try clear hb)) | ((with_reducible refine gate_dst (N := 8) rfl ?_); refine box_event ?hg (N := 8) ?hd (cs := #[.int .i64 0, .int .i64 0, .int .i64 0, .int .i64 0, .int .i64 0, .int .i64 0]) (t := 32) ?hr ?_; (case hd => rfl); (case hg => rfl); (case hr => first | (go_simp; done) | (go_simp; rfl)); intro V5 hg w78 hbox hb; have Z1 := zg HB hg; have V6 := zg HB hg; have V3 := zn E0 hg; have V7 := zn' E0 hg; have V4 := zn E1 hg; have V8 := zn' E1 hg; have E9 := zn E2 hg; have V2 := zn' E2 hg; have n0_ := Aside0.mk (hbox); replace E0 := zk E0 hb; replace E1 := zk E1 hb; replace E2 := zk E2 hb; replace HB := zb HB hb; have E5 := n0_; clear n0_; clear hb hbox hg; have E0L := V7.out; have E0M := V3.out; have E0N := V8.out; have E0O := V4.out; have E0P := V2.out; have E0Q := E9.out; obtain ⟨E0R, E0S, E0T, E0U, E0V, E0W, E0X, E0Y, E0Z, E1a, E1b, E1c⟩ := zq6 E5; obtain ⟨E1d, E1e, E1f, E1g, E1h, E1i, E1j, E1k⟩ := zq4 E2))
  refine bodyPost_ret (results_ct rfl _ _ E3 27 #[.int .i64 0, .int .i64 0, .int .i64 0, .int .i64 0] (0, 0) _ rfl (by (with_reducible repeat (first | refine blk_drewN ?_ _ | refine blk_drew ?_ | refine blk_alloc ?_ _)); refine blk_put (cs := #[.int .i64 0, .int .i64 0, .int .i64 0, .int .i64 0]) ?_ 3 _ rfl; (with_reducible repeat (first | refine blk_drewN ?_ _ | refine blk_drew ?_ | refine blk_alloc ?_ _)); refine blk_put (cs := #[.int .i64 0, .int .i64 0, .int .i64 0, .int .i64 0]) ?_ 2 _ rfl; (with_reducible repeat (first | refine blk_drewN ?_ _ | refine blk_drew ?_ | refine blk_alloc ?_ _)); refine blk_put (cs := #[.int .i64 0, .int .i64 0, .int .i64 0, .int .i64 0]) ?_ 1 _ rfl; (with_reducible repeat (first | refine blk_drewN ?_ _ | refine blk_drew ?_ | refine blk_alloc ?_ _)); refine blk_put (cs := #[.int .i64 0, .int .i64 0, .int .i64 0, .int .i64 0]) ?_ 0 _ rfl; (with_reducible repeat (first | refine blk_drewN ?_ _ | refine blk_drew ?_ | refine blk_alloc ?_ _)); refine blk_far ?_ E9.out _; (with_reducible repeat (first | refine blk_drewN ?_ _ | refine blk_drew ?_ | refine blk_alloc ?_ _)); refine blk_far ?_ E9.out _; (with_reducible repeat (first | refine blk_drewN ?_ _ | refine blk_drew ?_ | refine blk_alloc ?_ _)); refine blk_far ?_ E9.out _; (with_reducible repeat (first | refine blk_drewN ?_ _ | refine blk_drew ?_ | refine blk_alloc ?_ _)); refine blk_far ?_ E9.out _; (with_reducible repeat (first | refine blk_drewN ?_ _ | refine blk_drew ?_ | refine blk_alloc ?_ _)); refine blk_far ?_ E9.out _; (with_reducible repeat (first | refine blk_drewN ?_ _ | refine blk_drew ?_ | refine blk_alloc ?_ _)); refine blk_far ?_ E9.out _; (with_reducible repeat (first | refine blk_drewN ?_ _ | refine blk_drew ?_ | refine blk_alloc ?_ _)); exact E2.out) Try.underlying27 rfl (by kernel_rfl)) rfl ?_
  exact ⟨by first | rfl | (simp [errW_none, errW_some] <;> rfl) | (simp [*, errW_none, errW_some] <;> rfl), by repeat (first | (with_reducible first | exact HB.out | apply below_alloc | apply pw_below_drewN | apply below_drew1 | refine below_set ?_ V1.out | refine below_set ?_ V6.out) | exact HB.out)⟩
 rw [if_pos c9] at H
 have Z2 : (t366 == 0) = true := beq_iff_eq.mpr c9
 have Z3 : (t366 != 0) = false := bne_eq_false_iff_eq.mpr c9
 clear c9
 replace H := Option.bind_eq_some_iff.mp H
 obtain ⟨⟨t368, t369, t370, t371, t372⟩, A100, H⟩ := H
 try dsimp only at H
 have A10 := Aside0.mk A100
 clear A100
 by_cases c11 : t372 = 0
 rotate_left
 ·rw [if_neg c11] at H
  have Z4 : (t372 == 0) = false := beq_eq_false_iff_ne.mpr c11
  have Z5 : (t372 != 0) = true := bne_iff_ne.mpr c11
  simp only [Option.some.injEq, Prod.mk.injEq] at H
  obtain ⟨rfl, rfl, rfl, rfl, rfl⟩ := H
  go_enter Try.func22, Try.ntmps22
  go_wp2_with (first | ((with_reducible refine gate_dst (N := 3) rfl ?_); refine box_event ?hg (N := 3) ?hd (cs := #[.int .i64 a0_0, .int .i64 a0_1, .int .i64 a0_2, .int .i64 a0_3, .int .i64 a0_4, .int .i64 a0_5]) (t := 32) ?hr ?_; (case hd => rfl); (case hg => rfl); (case hr => first | (go_simp; done) | (go_simp; rfl)); intro G7 hg w44 hbox hb; have V9 := zg HB hg; have Y0 := zg HB hg; have n0_ := Aside0.mk (hbox); replace HB := zb HB hb; have E0 := n0_; clear n0_; clear hb hbox hg) | ((with_reducible refine gate_dst (N := 5) rfl ?_); refine box_event ?hg (N := 5) ?hd (cs := #[.int .i64 a2_0, .int .i64 a2_1, .int .i64 a2_2, .int .i64 a2_3]) (t := 27) ?hr ?_; (case hd => rfl); (case hg => rfl); (case hr => first | (go_simp; done) | (go_simp; rfl)); intro G8 hg w45 hbox hb; have Y1 := zg HB hg; have Y2 := zg HB hg; have G9 := zn E0 hg; have V0 := zn' E0 hg; have n0_ := Aside0.mk (hbox); replace E0 := zk E0 hb; replace HB := zb HB hb; have E1 := n0_; clear n0_; clear hb hbox hg) | ((with_reducible refine gate_dst (N := 6) rfl ?_); refine box_event ?hg (N := 6) ?hd (cs := #[.int .i64 0, .int .i64 0, .int .i64 0, .int .i64 0]) (t := 27) ?hr ?_; (case hd => rfl); (case hg => rfl); (case hr => first | (go_simp; done) | (go_simp; rfl)); intro E3 hg w46 hbox hb; have Y3 := zg HB hg; have V1 := zg HB hg; have G1 := zn E0 hg; have G2 := zn' E0 hg; have G3 := zn E1 hg; have G4 := zn' E1 hg; have n0_ := Aside0.mk (hbox); replace E0 := zk E0 hb; replace E1 := zk E1 hb; replace HB := zb HB hb; have E2 := n0_; clear n0_; clear hb hbox hg; have E1l := V0.out; have E1m := G9.out; have E1n := G3.out; have E1o := G4.out; obtain ⟨E1p, E1q, E1r, E1s, E1t, E1u, E1v, E1w⟩ := zq4 E1) | ((with_reducible refine gate_callee (f := 24) rfl ?_); refine goesL_ (some 12) rfl rfl Try.func24 (by kernel_rfl) rfl #[.agg #[.int .i64 a2_0, .int .i64 a2_1, .int .i64 a2_2, .int .i64 a2_3]] rfl (by (try simp only [List.map_toArray, List.map_cons, List.map_nil]); first | done | rfl | (simp only [List.length_drop, List.length_take]; rfl)) ?_; (with_reducible refine (rect_Valid.calls a2_0 a2_1 a2_2 a2_3 true _ A4.out).mono ?_); rintro e w50 ⟨rfl, hb⟩; refine ⟨_, rfl, ?_⟩; replace E0 := zk E0 hb; replace E1 := zk E1 hb; replace E2 := zk E2 hb; replace HB := zb HB hb; (try clear hb)) | ((with_reducible refine gate_callee (f := 25) rfl ?_); refine goesL_ (some 16) rfl rfl Try.func25 (by kernel_rfl) rfl #[.int .i64 a1] rfl (by (try simp only [List.map_toArray, List.map_cons, List.map_nil]); first | done | rfl | (simp only [List.length_drop, List.length_take]; rfl)) ?_; (with_reducible refine (kernel_Valid.calls a1 true _ A6.out).mono ?_); rintro e w' ⟨rfl, ⟨nd, rfl⟩⟩; refine ⟨_, rfl, ?_⟩; (try (rw [drewN_self w50]; generalize hq_ : World.drewN w50 _ = w50; have n0_ : Aside0 (w50.heap[G7]? = some (.cells #[.int .i64 a0_0, .int .i64 a0_1, .int .i64 a0_2, .int .i64 a0_3, .int .i64 a0_4, .int .i64 a0_5] 32 (0, 0))) := ⟨by rw [← hq_]; exact (by exact zk0 E0)⟩; have n1_ : Aside0 (w50.heap[G8]? = some (.cells #[.int .i64 a2_0, .int .i64 a2_1, .int .i64 a2_2, .int .i64 a2_3] 27 (0, 0))) := ⟨by rw [← hq_]; exact (by exact zk0 E1)⟩; have n2_ : Aside0 (w50.heap[E3]? = some (.cells #[.int .i64 0, .int .i64 0, .int .i64 0, .int .i64 0] 27 (0, 0))) := ⟨by rw [← hq_]; exact (by exact zk0 E2)⟩; have n3_ : Aside0 (Below w.heap.size w w50) := ⟨by rw [← hq_]; exact (by exact zb0 HB)⟩; clear E0 E1 E2 HB hq_; have E0 := n0_; have E1 := n1_; have E2 := n2_; have HB := n3_; clear n0_ n1_ n2_ n3_)); have E1x := G1.out; have E1y := G2.out; obtain ⟨E1z, E1A, E1B, E1C, E1D, E1E, E1F, E1G, E1H, E1I, E1J, E1K⟩ := zq6 E0) | ((with_reducible refine gate_callee (f := 26) rfl ?_); refine goesL_ (some 21) rfl rfl Try.func26 (by kernel_rfl) rfl #[.agg #[.int .i64 a0_0, .int .i64 a0_1, .int .i64 a0_2, .int .i64 a0_3, .int .i64 a0_4, .int .i64 a0_5]] rfl (by (try simp only [List.map_toArray, List.map_cons, List.map_nil]); first | done | rfl | (simp only [List.length_drop, List.length_take]; rfl)) ?_; (with_reducible refine (affine_Inverse.calls k a0_0 a0_1 a0_2 a0_3 a0_4 a0_5 t360 t361 t362 t363 t364 t365 t366 _ A8.out).mono ?_); rintro e w53 ⟨rfl, hb⟩; refine ⟨_, rfl, ?_⟩; replace E0 := zk E0 hb; replace E1 := zk E1 hb; replace E2 := zk E2 hb; replace HB := zb HB hb; (try clear hb)) | ((with_reducible refine gate_dst (N := 8) rfl ?_); refine box_event ?hg (N := 8) ?hd (cs := #[.int .i64 0, .int .i64 0, .int .i64 0, .int .i64 0, .int .i64 0, .int .i64 0]) (t := 32) ?hr ?_; (case hd => rfl); (case hg => rfl); (case hr => first | (go_simp; done) | (go_simp; rfl)); intro V5 hg w54 hbox hb; have Z1 := zg HB hg; have V6 := zg HB hg; have V3 := zn E0 hg; have V7 := zn' E0 hg; have V4 := zn E1 hg; have V8 := zn' E1 hg; have E9 := zn E2 hg; have V2 := zn' E2 hg; have n0_ := Aside0.mk (hbox); replace E0 := zk E0 hb; replace E1 := zk E1 hb; replace E2 := zk E2 hb; replace HB := zb HB hb; have E5 := n0_; clear n0_; clear hb hbox hg; have E1L := V7.out; have E1M := V3.out; have E1N := V8.out; have E1O := V4.out; have E1P := V2.out; have E1Q := E9.out; obtain ⟨E1R, E1S, E1T, E1U, E1V, E1W, E1X, E1Y, E1Z, E2a, E2b, E2c⟩ := zq6 E5; obtain ⟨E2d, E2e, E2f, E2g, E2h, E2i, E2j, E2k⟩ := zq4 E1) | ((with_reducible refine gate_callee (f := 42) rfl ?_); refine goesL_ (some 31) rfl rfl Try.func42 (by kernel_rfl) rfl #[.agg #[.int .i64 t360, .int .i64 t361, .int .i64 t362, .int .i64 t363, .int .i64 t364, .int .i64 t365], .agg #[.int .i64 a2_0, .int .i64 a2_1, .int .i64 a2_2, .int .i64 a2_3]] rfl (by (try simp only [List.map_toArray, List.map_cons, List.map_nil]); first | done | rfl | (simp only [List.length_drop, List.length_take]; rfl)) ?_; (with_reducible refine (affine_Box.calls k t360 t361 t362 t363 t364 t365 a2_0 a2_1 a2_2 a2_3 t368 t369 t370 t371 t372 _ A10.out).mono ?_); rintro e w60 ⟨rfl, hb⟩; refine ⟨_, rfl, ?_⟩; have n0_ := Aside0.mk (blk_below (g := V5) (o := .cells #[.int .i64 t360, .int .i64 t361, .int .i64 t362, .int .i64 t363, .int .i64 t364, .int .i64 t365] 32 (0, 0)) (by exact zp E5 rfl) hb); have n1_ := Aside0.mk (below_step (by exact zbo HB V6) hb); replace E0 := zfk E0 V3 hb; replace E1 := zfk E1 V4 hb; replace E2 := zfk E2 E9 hb; clear E5; clear HB; have E5 := n0_; have HB := n1_; clear n0_ n1_; (try clear hb)) | ((with_reducible refine gate_dst (N := 10) rfl ?_); refine box_event ?hg (N := 10) ?hd (cs := #[.int .i64 0, .int .i64 0, .int .i64 0, .int .i64 0]) (t := 27) ?hr ?_; (case hd => rfl); (case hg => rfl); (case hr => first | (go_simp; done) | (go_simp; rfl)); intro E4 hg w61 hbox hb; have Z6 := zg HB hg; have Y7 := zg HB hg; have Y4 := zn E0 hg; have Y8 := zn' E0 hg; have Y5 := zn E1 hg; have Y9 := zn' E1 hg; have G5 := zn E2 hg; have E6 := zn' E2 hg; have Y6 := zn E5 hg; have Z0 := zn' E5 hg; have n0_ := Aside0.mk (hbox); replace E0 := zk E0 hb; replace E1 := zk E1 hb; replace E2 := zk E2 hb; replace E5 := zk E5 hb; replace HB := zb HB hb; have E7 := n0_; clear n0_; clear hb hbox hg; have E2l := Y8.out; have E2m := Y4.out; have E2n := Y9.out; have E2o := Y5.out; have E2p := E6.out; have E2q := G5.out; have E2r := Z0.out; have E2s := Y6.out; obtain ⟨E2t, E2u, E2v, E2w, E2x, E2y, E2z, E2A⟩ := zq4 E7; obtain ⟨E2B, E2C, E2D, E2E, E2F, E2G, E2H, E2I⟩ := zq4 E2))
  refine bodyPost_ret (results_ct rfl _ _ E3 27 #[.int .i64 0, .int .i64 0, .int .i64 0, .int .i64 0] (0, 0) _ rfl (by (with_reducible repeat (first | refine blk_drewN ?_ _ | refine blk_drew ?_ | refine blk_alloc ?_ _)); refine blk_put (cs := #[.int .i64 0, .int .i64 0, .int .i64 0, .int .i64 0]) ?_ 3 _ rfl; (with_reducible repeat (first | refine blk_drewN ?_ _ | refine blk_drew ?_ | refine blk_alloc ?_ _)); refine blk_put (cs := #[.int .i64 0, .int .i64 0, .int .i64 0, .int .i64 0]) ?_ 2 _ rfl; (with_reducible repeat (first | refine blk_drewN ?_ _ | refine blk_drew ?_ | refine blk_alloc ?_ _)); refine blk_put (cs := #[.int .i64 0, .int .i64 0, .int .i64 0, .int .i64 0]) ?_ 1 _ rfl; (with_reducible repeat (first | refine blk_drewN ?_ _ | refine blk_drew ?_ | refine blk_alloc ?_ _)); refine blk_put (cs := #[.int .i64 0, .int .i64 0, .int .i64 0, .int .i64 0]) ?_ 0 _ rfl; (with_reducible repeat (first | refine blk_drewN ?_ _ | refine blk_drew ?_ | refine blk_alloc ?_ _)); refine blk_far ?_ G5.out _; (with_reducible repeat (first | refine blk_drewN ?_ _ | refine blk_drew ?_ | refine blk_alloc ?_ _)); refine blk_far ?_ G5.out _; (with_reducible repeat (first | refine blk_drewN ?_ _ | refine blk_drew ?_ | refine blk_alloc ?_ _)); refine blk_far ?_ G5.out _; (with_reducible repeat (first | refine blk_drewN ?_ _ | refine blk_drew ?_ | refine blk_alloc ?_ _)); refine blk_far ?_ G5.out _; (with_reducible repeat (first | refine blk_drewN ?_ _ | refine blk_drew ?_ | refine blk_alloc ?_ _)); exact E2.out) Try.underlying27 rfl (by kernel_rfl)) rfl ?_
  exact ⟨by first | rfl | (simp [errW_none, errW_some] <;> rfl) | (simp [*, errW_none, errW_some] <;> rfl), by repeat (first | (with_reducible first | exact HB.out | apply below_alloc | apply pw_below_drewN | apply below_drew1 | refine below_set ?_ V1.out | refine below_set ?_ Y7.out) | exact HB.out)⟩
 rw [if_pos c11] at H
 have Z4 : (t372 == 0) = true := beq_iff_eq.mpr c11
 have Z5 : (t372 != 0) = false := bne_eq_false_iff_eq.mpr c11
 clear c11
 replace H := Option.bind_eq_some_iff.mp H
 obtain ⟨t374, A120, H⟩ := H
 try dsimp only at H
 have A12 := Aside0.mk A120
 clear A120
 replace H := Option.bind_eq_some_iff.mp H
 obtain ⟨⟨t375, t376, t377, t378⟩, A130, H⟩ := H
 try dsimp only at H
 have A13 := Aside0.mk A130
 clear A130
 simp only [Option.some.injEq, Prod.mk.injEq] at H
 obtain ⟨rfl, rfl, rfl, rfl, rfl⟩ := H
 go_enter Try.func22, Try.ntmps22
 try go_wp2_with (first | ((with_reducible refine gate_dst (N := 3) rfl ?_); refine box_event ?hg (N := 3) ?hd (cs := #[.int .i64 a0_0, .int .i64 a0_1, .int .i64 a0_2, .int .i64 a0_3, .int .i64 a0_4, .int .i64 a0_5]) (t := 32) ?hr ?_; (case hd => rfl); (case hg => rfl); (case hr => first | (go_simp; done) | (go_simp; rfl)); intro G7 hg w14 hbox hb; have V9 := zg HB hg; have Y0 := zg HB hg; have n0_ := Aside0.mk (hbox); replace HB := zb HB hb; have E0 := n0_; clear n0_; clear hb hbox hg) | ((with_reducible refine gate_dst (N := 5) rfl ?_); refine box_event ?hg (N := 5) ?hd (cs := #[.int .i64 a2_0, .int .i64 a2_1, .int .i64 a2_2, .int .i64 a2_3]) (t := 27) ?hr ?_; (case hd => rfl); (case hg => rfl); (case hr => first | (go_simp; done) | (go_simp; rfl)); intro G8 hg w15 hbox hb; have Y1 := zg HB hg; have Y2 := zg HB hg; have G9 := zn E0 hg; have V0 := zn' E0 hg; have n0_ := Aside0.mk (hbox); replace E0 := zk E0 hb; replace HB := zb HB hb; have E1 := n0_; clear n0_; clear hb hbox hg) | ((with_reducible refine gate_dst (N := 6) rfl ?_); refine box_event ?hg (N := 6) ?hd (cs := #[.int .i64 0, .int .i64 0, .int .i64 0, .int .i64 0]) (t := 27) ?hr ?_; (case hd => rfl); (case hg => rfl); (case hr => first | (go_simp; done) | (go_simp; rfl)); intro E3 hg w16 hbox hb; have Y3 := zg HB hg; have V1 := zg HB hg; have G1 := zn E0 hg; have G2 := zn' E0 hg; have G3 := zn E1 hg; have G4 := zn' E1 hg; have n0_ := Aside0.mk (hbox); replace E0 := zk E0 hb; replace E1 := zk E1 hb; replace HB := zb HB hb; have E2 := n0_; clear n0_; clear hb hbox hg; have E2J := V0.out; have E2K := G9.out; have E2L := G3.out; have E2M := G4.out; obtain ⟨E2N, E2O, E2P, E2Q, E2R, E2S, E2T, E2U⟩ := zq4 E1) | ((with_reducible refine gate_callee (f := 24) rfl ?_); refine goesL_ (some 12) rfl rfl Try.func24 (by kernel_rfl) rfl #[.agg #[.int .i64 a2_0, .int .i64 a2_1, .int .i64 a2_2, .int .i64 a2_3]] rfl (by (try simp only [List.map_toArray, List.map_cons, List.map_nil]); first | done | rfl | (simp only [List.length_drop, List.length_take]; rfl)) ?_; (with_reducible refine (rect_Valid.calls a2_0 a2_1 a2_2 a2_3 true _ A4.out).mono ?_); rintro e w20 ⟨rfl, hb⟩; refine ⟨_, rfl, ?_⟩; replace E0 := zk E0 hb; replace E1 := zk E1 hb; replace E2 := zk E2 hb; replace HB := zb HB hb; (try clear hb)) | ((with_reducible refine gate_callee (f := 25) rfl ?_); refine goesL_ (some 16) rfl rfl Try.func25 (by kernel_rfl) rfl #[.int .i64 a1] rfl (by (try simp only [List.map_toArray, List.map_cons, List.map_nil]); first | done | rfl | (simp only [List.length_drop, List.length_take]; rfl)) ?_; (with_reducible refine (kernel_Valid.calls a1 true _ A6.out).mono ?_); rintro e w' ⟨rfl, ⟨nd, rfl⟩⟩; refine ⟨_, rfl, ?_⟩; (try (rw [drewN_self w20]; generalize hq_ : World.drewN w20 _ = w20; have n0_ : Aside0 (w20.heap[G7]? = some (.cells #[.int .i64 a0_0, .int .i64 a0_1, .int .i64 a0_2, .int .i64 a0_3, .int .i64 a0_4, .int .i64 a0_5] 32 (0, 0))) := ⟨by rw [← hq_]; exact (by exact zk0 E0)⟩; have n1_ : Aside0 (w20.heap[G8]? = some (.cells #[.int .i64 a2_0, .int .i64 a2_1, .int .i64 a2_2, .int .i64 a2_3] 27 (0, 0))) := ⟨by rw [← hq_]; exact (by exact zk0 E1)⟩; have n2_ : Aside0 (w20.heap[E3]? = some (.cells #[.int .i64 0, .int .i64 0, .int .i64 0, .int .i64 0] 27 (0, 0))) := ⟨by rw [← hq_]; exact (by exact zk0 E2)⟩; have n3_ : Aside0 (Below w.heap.size w w20) := ⟨by rw [← hq_]; exact (by exact zb0 HB)⟩; clear E0 E1 E2 HB hq_; have E0 := n0_; have E1 := n1_; have E2 := n2_; have HB := n3_; clear n0_ n1_ n2_ n3_)); have E2V := G1.out; have E2W := G2.out; obtain ⟨E2X, E2Y, E2Z, E3a, E3b, E3c, E3d, E3e, E3f, E3g, E3h, E3i⟩ := zq6 E0) | ((with_reducible refine gate_callee (f := 26) rfl ?_); refine goesL_ (some 21) rfl rfl Try.func26 (by kernel_rfl) rfl #[.agg #[.int .i64 a0_0, .int .i64 a0_1, .int .i64 a0_2, .int .i64 a0_3, .int .i64 a0_4, .int .i64 a0_5]] rfl (by (try simp only [List.map_toArray, List.map_cons, List.map_nil]); first | done | rfl | (simp only [List.length_drop, List.length_take]; rfl)) ?_; (with_reducible refine (affine_Inverse.calls k a0_0 a0_1 a0_2 a0_3 a0_4 a0_5 t360 t361 t362 t363 t364 t365 t366 _ A8.out).mono ?_); rintro e w23 ⟨rfl, hb⟩; refine ⟨_, rfl, ?_⟩; replace E0 := zk E0 hb; replace E1 := zk E1 hb; replace E2 := zk E2 hb; replace HB := zb HB hb; (try clear hb)) | ((with_reducible refine gate_dst (N := 8) rfl ?_); refine box_event ?hg (N := 8) ?hd (cs := #[.int .i64 0, .int .i64 0, .int .i64 0, .int .i64 0, .int .i64 0, .int .i64 0]) (t := 32) ?hr ?_; (case hd => rfl); (case hg => rfl); (case hr => first | (go_simp; done) | (go_simp; rfl)); intro V5 hg w24 hbox hb; have Z1 := zg HB hg; have V6 := zg HB hg; have V3 := zn E0 hg; have V7 := zn' E0 hg; have V4 := zn E1 hg; have V8 := zn' E1 hg; have E9 := zn E2 hg; have V2 := zn' E2 hg; have n0_ := Aside0.mk (hbox); replace E0 := zk E0 hb; replace E1 := zk E1 hb; replace E2 := zk E2 hb; replace HB := zb HB hb; have E5 := n0_; clear n0_; clear hb hbox hg; have E3j := V7.out; have E3k := V3.out; have E3l := V8.out; have E3m := V4.out; have E3n := V2.out; have E3o := E9.out; obtain ⟨E3p, E3q, E3r, E3s, E3t, E3u, E3v, E3w, E3x, E3y, E3z, E3A⟩ := zq6 E5; obtain ⟨E3B, E3C, E3D, E3E, E3F, E3G, E3H, E3I⟩ := zq4 E1) | ((with_reducible refine gate_callee (f := 42) rfl ?_); refine goesL_ (some 31) rfl rfl Try.func42 (by kernel_rfl) rfl #[.agg #[.int .i64 t360, .int .i64 t361, .int .i64 t362, .int .i64 t363, .int .i64 t364, .int .i64 t365], .agg #[.int .i64 a2_0, .int .i64 a2_1, .int .i64 a2_2, .int .i64 a2_3]] rfl (by (try simp only [List.map_toArray, List.map_cons, List.map_nil]); first | done | rfl | (simp only [List.length_drop, List.length_take]; rfl)) ?_; (with_reducible refine (affine_Box.calls k t360 t361 t362 t363 t364 t365 a2_0 a2_1 a2_2 a2_3 t368 t369 t370 t371 t372 _ A10.out).mono ?_); rintro e w30 ⟨rfl, hb⟩; refine ⟨_, rfl, ?_⟩; have n0_ := Aside0.mk (blk_below (g := V5) (o := .cells #[.int .i64 t360, .int .i64 t361, .int .i64 t362, .int .i64 t363, .int .i64 t364, .int .i64 t365] 32 (0, 0)) (by exact zp E5 rfl) hb); have n1_ := Aside0.mk (below_step (by exact zbo HB V6) hb); replace E0 := zfk E0 V3 hb; replace E1 := zfk E1 V4 hb; replace E2 := zfk E2 E9 hb; clear E5; clear HB; have E5 := n0_; have HB := n1_; clear n0_ n1_; (try clear hb)) | ((with_reducible refine gate_dst (N := 10) rfl ?_); refine box_event ?hg (N := 10) ?hd (cs := #[.int .i64 0, .int .i64 0, .int .i64 0, .int .i64 0]) (t := 27) ?hr ?_; (case hd => rfl); (case hg => rfl); (case hr => first | (go_simp; done) | (go_simp; rfl)); intro E4 hg w31 hbox hb; have Z6 := zg HB hg; have Y7 := zg HB hg; have Y4 := zn E0 hg; have Y8 := zn' E0 hg; have Y5 := zn E1 hg; have Y9 := zn' E1 hg; have G5 := zn E2 hg; have E6 := zn' E2 hg; have Y6 := zn E5 hg; have Z0 := zn' E5 hg; have n0_ := Aside0.mk (hbox); replace E0 := zk E0 hb; replace E1 := zk E1 hb; replace E2 := zk E2 hb; replace E5 := zk E5 hb; replace HB := zb HB hb; have E7 := n0_; clear n0_; clear hb hbox hg; have E3J := Y8.out; have E3K := Y4.out; have E3L := Y9.out; have E3M := Y5.out; have E3N := E6.out; have E3O := G5.out; have E3P := Z0.out; have E3Q := Y6.out; obtain ⟨E3R, E3S, E3T, E3U, E3V, E3W, E3X, E3Y⟩ := zq4 E7))
 have n0_ : Aside0 (((((w31.setCell ⟨E4, 0, none⟩ (.int .i64 t368)).setCell ⟨E4, 1, none⟩ (.int .i64 t369)).setCell ⟨E4, 2, none⟩ (.int .i64 t370)).setCell ⟨E4, 3, none⟩ (.int .i64 t371)).heap[G7]? = some (.cells #[.int .i64 a0_0, .int .i64 a0_1, .int .i64 a0_2, .int .i64 a0_3, .int .i64 a0_4, .int .i64 a0_5] 32 (0, 0))) := ⟨by exact zf E0 Y4⟩
 have n1_ : Aside0 (((((w31.setCell ⟨E4, 0, none⟩ (.int .i64 t368)).setCell ⟨E4, 1, none⟩ (.int .i64 t369)).setCell ⟨E4, 2, none⟩ (.int .i64 t370)).setCell ⟨E4, 3, none⟩ (.int .i64 t371)).heap[G8]? = some (.cells #[.int .i64 a2_0, .int .i64 a2_1, .int .i64 a2_2, .int .i64 a2_3] 27 (0, 0))) := ⟨by exact zf E1 Y5⟩
 have n2_ : Aside0 (((((w31.setCell ⟨E4, 0, none⟩ (.int .i64 t368)).setCell ⟨E4, 1, none⟩ (.int .i64 t369)).setCell ⟨E4, 2, none⟩ (.int .i64 t370)).setCell ⟨E4, 3, none⟩ (.int .i64 t371)).heap[E3]? = some (.cells #[.int .i64 0, .int .i64 0, .int .i64 0, .int .i64 0] 27 (0, 0))) := ⟨by exact zf E2 G5⟩
 have n3_ : Aside0 (((((w31.setCell ⟨E4, 0, none⟩ (.int .i64 t368)).setCell ⟨E4, 1, none⟩ (.int .i64 t369)).setCell ⟨E4, 2, none⟩ (.int .i64 t370)).setCell ⟨E4, 3, none⟩ (.int .i64 t371)).heap[V5]? = some (.cells #[.int .i64 t360, .int .i64 t361, .int .i64 t362, .int .i64 t363, .int .i64 t364, .int .i64 t365] 32 (0, 0))) := ⟨by exact zf E5 Y6⟩
 have n4_ : Aside0 (((((w31.setCell ⟨E4, 0, none⟩ (.int .i64 t368)).setCell ⟨E4, 1, none⟩ (.int .i64 t369)).setCell ⟨E4, 2, none⟩ (.int .i64 t370)).setCell ⟨E4, 3, none⟩ (.int .i64 t371)).heap[E4]? = some (.cells #[.int .i64 t368, .int .i64 t369, .int .i64 t370, .int .i64 t371] 27 (0, 0))) := ⟨by exact zp E7 rfl⟩
 have n5_ : Aside0 (Below w.heap.size w ((((w31.setCell ⟨E4, 0, none⟩ (.int .i64 t368)).setCell ⟨E4, 1, none⟩ (.int .i64 t369)).setCell ⟨E4, 2, none⟩ (.int .i64 t370)).setCell ⟨E4, 3, none⟩ (.int .i64 t371))) := ⟨by exact zbo HB Y7⟩
 (try clear E0)
 (try clear E1)
 (try clear E2)
 (try clear E5)
 (try clear E7)
 (try clear HB)
 generalize ((((w31.setCell ⟨E4, 0, none⟩ (.int .i64 t368)).setCell ⟨E4, 1, none⟩ (.int .i64 t369)).setCell ⟨E4, 2, none⟩ (.int .i64 t370)).setCell ⟨E4, 3, none⟩ (.int .i64 t371)) = w37 at n0_ n1_ n2_ n3_ n4_ n5_ ⊢
 have E0 := n0_
 have E1 := n1_
 have E2 := n2_
 have E5 := n3_
 have E7 := n4_
 have HB := n5_
 clear n0_ n1_ n2_ n3_ n4_ n5_
 replace E0 := zkd E0
 replace E1 := zkd E1
 replace E2 := zkd E2
 replace E5 := zkd E5
 replace E7 := zkd E7
 replace HB := zbd HB
 refine start_ (n := 7) (S := fun w' => w'.cell? ⟨E4, 0, none⟩ = some (.int .i64 t368) ∧ w'.cell? ⟨E4, 1, none⟩ = some (.int .i64 t369) ∧ w'.cell? ⟨E4, 2, none⟩ = some (.int .i64 t370) ∧ w'.cell? ⟨E4, 3, none⟩ = some (.int .i64 t371)) (ds := []) (bs 7 0) (by kernel_rfl) rfl rfl ⟨(blk_cell E7.out 0).trans rfl, (blk_cell E7.out 1).trans rfl, (blk_cell E7.out 2).trans rfl, (blk_cell E7.out 3).trans rfl⟩ (fun hHeld => ?_)
 generalize w37.drew = w38 at E0 E1 E2 E5 E7 HB hHeld ⊢
 refine pure_ (i := 1) (N := some 39) (v := ?_) (a' := ?_) (bs 7 2) rfl rfl (by kernel_rfl) (fun _ _ _ h => h) (Or.inl ⟨by rfl, ?_⟩) ?_ ?_
 rotate_left
 ·intro w'
  go_simp
  with_reducible rfl
 rotate_left
 ·simp only [Act.put, sA, sB, sC, i64_w, i32_w]
  rfl
 refine take_ (i := 0) (N := some 38) (v := ?_) (a' := ?_) (bs 7 3) rfl rfl (by kernel_rfl) (fun _ _ _ h => h) (Or.inl ⟨by rfl, ?_⟩) hHeld ?_ ?_
 rotate_left
 ·rintro w' ⟨s0, s1, s2, s3⟩
  go_simp
  with_reducible rfl
 rotate_left
 ·simp only [Act.put, sA, sB, sC, i64_w, i32_w]
  rfl
 refine one_ (i := 2) (N := some 40) (bs 7 7) rfl rfl (by kernel_rfl) (by decide) (fun K hK => ?_)
 refine goes_ Try.func44 (by kernel_rfl) rfl #[.int .i64 a1] (by rfl) rfl rfl (by (try simp only [List.map_toArray, List.map_cons, List.map_nil]); first | done | rfl | (simp only [List.length_drop, List.length_take]; rfl)) ?_
 with_reducible refine (kernel_Support.calls a1 t374 _ A12.out).mono ?_
 rintro e w' ⟨rfl, ⟨nd, rfl⟩⟩
 refine ⟨_, rfl, ?_⟩
 refine hK.out _ _ ⟨(blk_cell E7.out 0).trans rfl, (blk_cell E7.out 1).trans rfl, (blk_cell E7.out 2).trans rfl, (blk_cell E7.out 3).trans rfl⟩ (fun hHeld => ?_)
 clear hK K
 refine norm_ (a' := ?_) ?_ ?_
 rotate_left
 ·show Act.put _ (some 40) _ = _
  simp only [Act.put, sA, sB, sC, i64_w, i32_w]
  rfl
 refine pure_ (i := 3) (N := some 41) (v := ?_) (a' := ?_) (bs 7 15) rfl rfl (by kernel_rfl) (fun _ _ _ h => h) (Or.inl ⟨by rfl, ?_⟩) ?_ ?_
 rotate_left
 ·intro w'
  go_simp
  with_reducible rfl
 rotate_left
 ·simp only [Act.put, sA, sB, sC, i64_w, i32_w]
  rfl
 refine one_ (i := 4) (N := some 42) (bs 7 31) rfl rfl (by kernel_rfl) (by decide) (fun K hK => ?_)
 refine goes_ Try.func43 (by kernel_rfl) rfl #[.agg #[.int .i64 t368, .int .i64 t369, .int .i64 t370, .int .i64 t371], .int .i64 (wrap64 (t374 + 1))] (by rfl) rfl rfl (by (try simp only [List.map_toArray, List.map_cons, List.map_nil]); first | done | rfl | (simp only [List.length_drop, List.length_take]; rfl)) ?_
 with_reducible refine (rect_Grow.calls k t368 t369 t370 t371 (wrap64 (t374 + 1)) t375 t376 t377 t378 _ A13.out).mono ?_
 rintro e w39 ⟨rfl, hb⟩
 refine ⟨_, rfl, ?_⟩
 replace E0 := zk E0 hb
 replace E1 := zk E1 hb
 replace E2 := zk E2 hb
 replace E5 := zk E5 hb
 replace E7 := zk E7 hb
 replace HB := zb HB hb
 (try clear hb)
 (try clear hb2)
 (try clear hk)
 (try clear hi)
 refine hK.out _ _ ⟨(blk_cell E7.out 0).trans rfl, (blk_cell E7.out 1).trans rfl, (blk_cell E7.out 2).trans rfl, (blk_cell E7.out 3).trans rfl⟩ (fun hHeld => ?_)
 clear hK K
 refine norm_ (a' := ?_) ?_ ?_
 rotate_left
 ·show Act.put _ (some 42) _ = _
  simp only [Act.put, sA, sB, sC, i64_w, i32_w]
  rfl
 refine one_ (i := 5) (N := none) (bs 7 63) rfl rfl (by kernel_rfl) (by decide) (fun K hK => ?_)
 have hs40 : w39.cell? ⟨E3, 0, none⟩ = some (.int .i64 0) := (blk_cell E2.out 0).trans rfl
 have hfs40 := blk_frozen E2.out 0
 have E3Z := G1.out
 have E4a := G3.out
 have E4b := V2.out
 have E4c := E6.out
 have E4d := G2.out
 have E4e := G4.out
 have E4f := E9.out
 have E4g := G5.out
 have hs41 : w39.cell? ⟨E3, 1, none⟩ = some (.int .i64 0) := (blk_cell E2.out 1).trans rfl
 have hfs41 := blk_frozen E2.out 1
 have E4h := G1.out
 have E4i := G3.out
 have E4j := V2.out
 have E4k := E6.out
 have E4l := G2.out
 have E4m := G4.out
 have E4n := E9.out
 have E4o := G5.out
 have hs42 : w39.cell? ⟨E3, 2, none⟩ = some (.int .i64 0) := (blk_cell E2.out 2).trans rfl
 have hfs42 := blk_frozen E2.out 2
 have E4p := G1.out
 have E4q := G3.out
 have E4r := V2.out
 have E4s := E6.out
 have E4t := G2.out
 have E4u := G4.out
 have E4v := E9.out
 have E4w := G5.out
 have hs43 : w39.cell? ⟨E3, 3, none⟩ = some (.int .i64 0) := (blk_cell E2.out 3).trans rfl
 have hfs43 := blk_frozen E2.out 3
 have E4x := G1.out
 have E4y := G3.out
 have E4z := V2.out
 have E4A := E6.out
 have E4B := G2.out
 have E4C := G4.out
 have E4D := E9.out
 have E4E := G5.out
 refine skip_ (w1 := ?_) (by rfl) rfl ?_ ?_
 rotate_left
 ·go_simp
  rfl
 refine hK.out _ _ ⟨((cell_far (p := ⟨E3, _, none⟩) E6.out _).trans (((cell_far (p := ⟨E3, _, none⟩) E6.out _).trans (((cell_far (p := ⟨E3, _, none⟩) E6.out _).trans (((cell_far (p := ⟨E3, _, none⟩) E6.out _).trans (hHeld.1)))))))), ((cell_far (p := ⟨E3, _, none⟩) E6.out _).trans (((cell_far (p := ⟨E3, _, none⟩) E6.out _).trans (((cell_far (p := ⟨E3, _, none⟩) E6.out _).trans (((cell_far (p := ⟨E3, _, none⟩) E6.out _).trans (hHeld.2.1)))))))), ((cell_far (p := ⟨E3, _, none⟩) E6.out _).trans (((cell_far (p := ⟨E3, _, none⟩) E6.out _).trans (((cell_far (p := ⟨E3, _, none⟩) E6.out _).trans (((cell_far (p := ⟨E3, _, none⟩) E6.out _).trans (hHeld.2.2.1)))))))), ((cell_far (p := ⟨E3, _, none⟩) E6.out _).trans (((cell_far (p := ⟨E3, _, none⟩) E6.out _).trans (((cell_far (p := ⟨E3, _, none⟩) E6.out _).trans (((cell_far (p := ⟨E3, _, none⟩) E6.out _).trans (hHeld.2.2.2))))))))⟩ (fun hHeld => ?_)
 clear hK K
 refine pure_ (i := 6) (N := some 7) (v := ?_) (a' := ?_) (bs 7 127) rfl rfl (by kernel_rfl) (fun _ _ _ h => h) (Or.inl ⟨by rfl, ?_⟩) ?_ ?_
 rotate_left
 ·intro w'
  go_simp
  with_reducible rfl
 rotate_left
 ·simp only [Act.put, sA, sB, sC, i64_w, i32_w]
  rfl
 refine done_ (by kernel_rfl) ?_
 try go_wp2
 refine bodyPost_ret (results_ct rfl _ _ E3 27 #[.int .i64 t375, .int .i64 t376, .int .i64 t377, .int .i64 t378] (0, 0) _ rfl (by exact zp E2 rfl) Try.underlying27 rfl (by kernel_rfl)) rfl ?_
 exact ⟨by first | rfl | (simp [errW_none, errW_some] <;> rfl) | (simp [*, errW_none, errW_some] <;> rfl), by exact zbo HB V1⟩
end Go.Proofs.Ytapdifpmijgkcaa.G
