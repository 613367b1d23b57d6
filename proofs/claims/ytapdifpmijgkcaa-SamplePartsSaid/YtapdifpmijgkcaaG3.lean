/- Contracts of functions of the program, each as it is called: what it computes (.f), that it computes no less with more rounds (.mono), and that a call returns just that (.calls). No conditions but those that each contract names. Written by a program of this session (wip/gx.py over the kit's print). -/
import Derived.Test.YtapdifpmijgkcaaG0
import Derived.Test.YtapdifpmijgkcaaG1
import Derived.Test.YtapdifpmijgkcaaG2
namespace Go.Proofs.Ytapdifpmijgkcaa.G
open Go.RowKit Go.Proofs.YtapdifpmijgkcaaW.PrintWords Go.Proofs.YtapdifpmijgkcaaW.PrintLast Go.Proofs.YtapdifpmijgkcaaW.PrintMore
attribute [local go_sem] max2_int min2_int max_two min_two max_three min_three max_four min_four   -- for this text's walks alone
set_option linter.unusedVariables false
set_option linter.unusedSimpArgs false


/-! ### affine_Inverse: function 26 -/
def affine_Inverse.f (k : Nat) (a0_0 : Int) (a0_1 : Int) (a0_2 : Int) (a0_3 : Int) (a0_4 : Int) (a0_5 : Int) : Option (Int × Int × Int × Int × Int × Int × Int) := (affine_Check.f a0_0 a0_1 a0_2 a0_3 a0_4 a0_5).bind fun t154 => (if t154 = 0 then (if (wrap64 ((wrap64 (a0_0 * a0_3)) - (wrap64 (a0_1 * a0_2)))) = 0 then (some (0, 0, 0, 0, 0, 0, 17)) else ((affine_Inverse_1.f k a0_3 (wrap64 ((wrap64 (a0_0 * a0_3)) - (wrap64 (a0_1 * a0_2))))).bind fun t156 => ((affine_Inverse_1.f k (wrap64 (-a0_1)) (wrap64 ((wrap64 (a0_0 * a0_3)) - (wrap64 (a0_1 * a0_2))))).bind fun t157 => ((affine_Inverse_1.f k (wrap64 (-a0_2)) (wrap64 ((wrap64 (a0_0 * a0_3)) - (wrap64 (a0_1 * a0_2))))).bind fun t158 => ((affine_Inverse_1.f k a0_0 (wrap64 ((wrap64 (a0_0 * a0_3)) - (wrap64 (a0_1 * a0_2))))).bind fun t159 => ((affine_Check.f t156 t157 t158 t159 0 0).bind fun t161 => (if t161 = 0 then ((affine_dot.f k (wrap64 (-t156)) (wrap64 (-t158)) a0_4 a0_5).bind fun t162 => ((affine_dot.f k (wrap64 (-t157)) (wrap64 (-t159)) a0_4 a0_5).bind fun t163 => ((affine_Check.f t156 t157 t158 t159 t162 t163).bind fun t164 => (if t164 = 0 then (some (t156, t157, t158, t159, t162, t163, 0)) else (some (0, 0, 0, 0, 0, 0, 17)))))) else (some (0, 0, 0, 0, 0, 0, 17))))))))) else (some (0, 0, 0, 0, 0, 0, t154)))
theorem affine_Inverse.mono : ∀ a0 a1 a2 a3 a4 a5 k, LeO (affine_Inverse.f k a0 a1 a2 a3 a4 a5) (affine_Inverse.f (k + 1) a0 a1 a2 a3 a4 a5) := by
 intro a0 a1 a2 a3 a4 a5 k
 unfold affine_Inverse.f
 repeat' first
   | (with_reducible exact affine_Inverse_1.mono _ _ _)
   | (with_reducible exact affine_dot.mono _ _ _ _ _)
   | (with_reducible exact LeO.refl _)
   | (with_reducible exact LeO.none _)
   | (with_reducible refine LeO.ite ?_ ?_)
   | (with_reducible refine LeO.bind ?_ (fun _ => ?_))
   | exact affine_Inverse_1.mono _ _ _
   | exact affine_dot.mono _ _ _ _ _
   | exact LeO.none _
   | refine LeO.ite ?_ ?_
   | refine LeO.bind ?_ (fun _ => ?_)
def affine_Inverse.T8 : Bool × List (List Nat × List Nat) := (true, [([], []), ([], []), ([1], [1]), ([0, 2], [0, 2]), ([], []), ([], []), ([5], [5]), ([6], [6]), ([4, 7, 3], [4, 7]), ([], []), ([], []), ([10], [10]), ([11], [11]), ([9, 12, 8], [9, 12]), ([], []), ([], []), ([15], [15]), ([14, 16, 13], [14, 16]), ([3, 8, 13, 17], [3, 8, 13, 17]), ([], []), ([19, 18, 17, 0, 1, 2, 3, 4, 5, 6, 7, 8, 9, 10, 11, 12, 13, 14, 15, 16, 17, 18, 19], [18, 19])])
def affine_Inverse.B8 : List Nat := [0, 0, 2, 7, 0, 0, 32, 96, 255, 0, 0, 1024, 3072, 8191, 0, 0, 32768, 131071, 262143, 0, 1048575]
theorem affine_Inverse.tab8 : rtab .any (opsOf Try.f26 8) = affine_Inverse.T8 := by kernel_rfl
theorem affine_Inverse.bits8 : waitsOk affine_Inverse.T8.2 affine_Inverse.B8 = true := by kernel_rfl
set_option maxHeartbeats 8000000 in
set_option maxRecDepth 100000 in
theorem affine_Inverse.calls (k : Nat) (a0_0 : Int) (a0_1 : Int) (a0_2 : Int) (a0_3 : Int) (a0_4 : Int) (a0_5 : Int) (r1 : Int) (r2 : Int) (r3 : Int) (r4 : Int) (r5 : Int) (r6 : Int) (r7 : Int) (w : World) (h : affine_Inverse.f k a0_0 a0_1 a0_2 a0_3 a0_4 a0_5 = some (r1, r2, r3, r4, r5, r6, r7)) :
  Calls Try.prog 26 #[.agg #[.int .i64 a0_0, .int .i64 a0_1, .int .i64 a0_2, .int .i64 a0_3, .int .i64 a0_4, .int .i64 a0_5]] w fun e w' => e = .returned (.tuple #[.agg #[.int .i64 r1, .int .i64 r2, .int .i64 r3, .int .i64 r4, .int .i64 r5, .int .i64 r6], .int .i64 r7]) ∧ Below w.heap.size w w' := by
 have hu32 := Try.underlying32
 have HB := Aside0.mk (Below.refl w.heap.size w)
 have H : ((affine_Check.f a0_0 a0_1 a0_2 a0_3 a0_4 a0_5).bind fun t154 => (if t154 = 0 then (if (wrap64 ((wrap64 (a0_0 * a0_3)) - (wrap64 (a0_1 * a0_2)))) = 0 then (some (0, 0, 0, 0, 0, 0, 17)) else ((affine_Inverse_1.f k a0_3 (wrap64 ((wrap64 (a0_0 * a0_3)) - (wrap64 (a0_1 * a0_2))))).bind fun t156 => ((affine_Inverse_1.f k (wrap64 (-a0_1)) (wrap64 ((wrap64 (a0_0 * a0_3)) - (wrap64 (a0_1 * a0_2))))).bind fun t157 => ((affine_Inverse_1.f k (wrap64 (-a0_2)) (wrap64 ((wrap64 (a0_0 * a0_3)) - (wrap64 (a0_1 * a0_2))))).bind fun t158 => ((affine_Inverse_1.f k a0_0 (wrap64 ((wrap64 (a0_0 * a0_3)) - (wrap64 (a0_1 * a0_2))))).bind fun t159 => ((affine_Check.f t156 t157 t158 t159 0 0).bind fun t161 => (if t161 = 0 then ((affine_dot.f k (wrap64 (-t156)) (wrap64 (-t158)) a0_4 a0_5).bind fun t162 => ((affine_dot.f k (wrap64 (-t157)) (wrap64 (-t159)) a0_4 a0_5).bind fun t163 => ((affine_Check.f t156 t157 t158 t159 t162 t163).bind fun t164 => (if t164 = 0 then (some (t156, t157, t158, t159, t162, t163, 0)) else (some (0, 0, 0, 0, 0, 0, 17)))))) else (some (0, 0, 0, 0, 0, 0, 17))))))))) else (some (0, 0, 0, 0, 0, 0, t154)))) = some (r1, r2, r3, r4, r5, r6, r7) := h
 clear h
 replace H := Option.bind_eq_some_iff.mp H
 obtain ⟨t154, A20, H⟩ := H
 try dsimp only at H
 have A2 := Aside0.mk A20
 clear A20
 by_cases c3 : t154 = 0
 rotate_left
 ·rw [if_neg c3] at H
  have V7 : (t154 == 0) = false := beq_eq_false_iff_ne.mpr c3
  have V8 : (t154 != 0) = true := bne_iff_ne.mpr c3
  simp only [Option.some.injEq, Prod.mk.injEq] at H
  obtain ⟨rfl, rfl, rfl, rfl, rfl, rfl, rfl⟩ := H
  go_enter Try.func26, Try.ntmps26
  go_wp2_with (first | ((with_reducible refine gate_dst (N := 1) rfl ?_); refine box_event ?hg (N := 1) ?hd (cs := #[.int .i64 a0_0, .int .i64 a0_1, .int .i64 a0_2, .int .i64 a0_3, .int .i64 a0_4, .int .i64 a0_5]) (t := 32) ?hr ?_; (case hd => rfl); (case hg => rfl); (case hr => first | (go_simp; done) | (go_simp; rfl)); intro E1 hg w123 hbox hb; have V4 := zg HB hg; have V5 := zg HB hg; have n0_ := Aside0.mk (hbox); replace HB := zb HB hb; have E0 := n0_; clear n0_; clear hb hbox hg) | ((with_reducible refine gate_dst (N := 2) rfl ?_); refine box_event ?hg (N := 2) ?hd (cs := #[.int .i64 0, .int .i64 0, .int .i64 0, .int .i64 0, .int .i64 0, .int .i64 0]) (t := 32) ?hr ?_; (case hd => rfl); (case hg => rfl); (case hr => first | (go_simp; done) | (go_simp; rfl)); intro E8 hg w124 hbox hb; have V6 := zg HB hg; have G6 := zg HB hg; have G7 := zn E0 hg; have G8 := zn' E0 hg; have n0_ := Aside0.mk (hbox); replace E0 := zk E0 hb; replace HB := zb HB hb; have E2 := n0_; clear n0_; clear hb hbox hg; have E0e := G7.out; have E0f := G8.out; obtain ⟨E0g, E0h, E0i, E0j, E0k, E0l, E0m, E0n, E0o, E0p, E0q, E0r⟩ := zq6 E0) | ((with_reducible refine gate_callee (f := 46) rfl ?_); refine goesL_ (some 9) rfl rfl Try.func46 (by kernel_rfl) rfl #[.agg #[.int .i64 a0_0, .int .i64 a0_1, .int .i64 a0_2, .int .i64 a0_3, .int .i64 a0_4, .int .i64 a0_5]] rfl (by (try simp only [List.map_toArray, List.map_cons, List.map_nil]); first | done | rfl | (simp only [List.length_drop, List.length_take]; rfl)) ?_; (with_reducible refine (affine_Check.calls a0_0 a0_1 a0_2 a0_3 a0_4 a0_5 t154 _ A2.out).mono ?_); rintro e w127 ⟨rfl, hb⟩; refine ⟨_, rfl, ?_⟩; replace E0 := zk E0 hb; replace E2 := zk E2 hb; replace HB := zb HB hb; (try clear hb); obtain ⟨E0s, E0t, E0u, E0v, E0w, E0x, E0y, E0z, E0A, E0B, E0C, E0D⟩ := zq6 E2))
  refine bodyPost_ret (results_ct rfl _ _ E8 32 #[.int .i64 0, .int .i64 0, .int .i64 0, .int .i64 0, .int .i64 0, .int .i64 0] (0, 0) _ rfl (by exact zp E2 rfl) Try.underlying32 rfl (by kernel_rfl)) rfl ?_
  exact ⟨by first | rfl | (simp [errW_none, errW_some] <;> rfl) | (simp [*, errW_none, errW_some] <;> rfl), by exact zbo HB G6⟩

 rw [if_pos c3] at H
 have V7 : (t154 == 0) = true := beq_iff_eq.mpr c3
 have V8 : (t154 != 0) = false := bne_eq_false_iff_eq.mpr c3
 clear c3
 by_cases c4 : (wrap64 ((wrap64 (a0_0 * a0_3)) - (wrap64 (a0_1 * a0_2)))) = 0
 ·rw [if_pos c4] at H
  have V9 : ((wrap64 ((wrap64 (a0_0 * a0_3)) - (wrap64 (a0_1 * a0_2)))) == 0) = true := beq_iff_eq.mpr c4
  have Y0 : ((wrap64 ((wrap64 (a0_0 * a0_3)) - (wrap64 (a0_1 * a0_2)))) != 0) = false := bne_eq_false_iff_eq.mpr c4
  clear c4
  simp only [Option.some.injEq, Prod.mk.injEq] at H
  obtain ⟨rfl, rfl, rfl, rfl, rfl, rfl, rfl⟩ := H
  go_enter Try.func26, Try.ntmps26
  go_wp2_with (first | ((with_reducible refine gate_dst (N := 1) rfl ?_); refine box_event ?hg (N := 1) ?hd (cs := #[.int .i64 a0_0, .int .i64 a0_1, .int .i64 a0_2, .int .i64 a0_3, .int .i64 a0_4, .int .i64 a0_5]) (t := 32) ?hr ?_; (case hd => rfl); (case hg => rfl); (case hr => first | (go_simp; done) | (go_simp; rfl)); intro E1 hg w5 hbox hb; have V4 := zg HB hg; have V5 := zg HB hg; have n0_ := Aside0.mk (hbox); replace HB := zb HB hb; have E0 := n0_; clear n0_; clear hb hbox hg) | ((with_reducible refine gate_dst (N := 2) rfl ?_); refine box_event ?hg (N := 2) ?hd (cs := #[.int .i64 0, .int .i64 0, .int .i64 0, .int .i64 0, .int .i64 0, .int .i64 0]) (t := 32) ?hr ?_; (case hd => rfl); (case hg => rfl); (case hr => first | (go_simp; done) | (go_simp; rfl)); intro E8 hg w6 hbox hb; have V6 := zg HB hg; have G6 := zg HB hg; have G7 := zn E0 hg; have G8 := zn' E0 hg; have n0_ := Aside0.mk (hbox); replace E0 := zk E0 hb; replace HB := zb HB hb; have E2 := n0_; clear n0_; clear hb hbox hg; have E0E := G7.out; have E0F := G8.out; obtain ⟨E0G, E0H, E0I, E0J, E0K, E0L, E0M, E0N, E0O, E0P, E0Q, E0R⟩ := zq6 E0) | ((with_reducible refine gate_callee (f := 46) rfl ?_); refine goesL_ (some 9) rfl rfl Try.func46 (by kernel_rfl) rfl #[.agg #[.int .i64 a0_0, .int .i64 a0_1, .int .i64 a0_2, .int .i64 a0_3, .int .i64 a0_4, .int .i64 a0_5]] rfl (by (try simp only [List.map_toArray, List.map_cons, List.map_nil]); first | done | rfl | (simp only [List.length_drop, List.length_take]; rfl)) ?_; (with_reducible refine (affine_Check.calls a0_0 a0_1 a0_2 a0_3 a0_4 a0_5 t154 _ A2.out).mono ?_); rintro e w9 ⟨rfl, hb⟩; refine ⟨_, rfl, ?_⟩; replace E0 := zk E0 hb; replace E2 := zk E2 hb; replace HB := zb HB hb; (try clear hb); obtain ⟨E0S, E0T, E0U, E0V, E0W, E0X, E0Y, E0Z, E1a, E1b, E1c, E1d⟩ := zq6 E0) | ((with_reducible refine gate_dst (N := 5) rfl ?_); refine box_event ?hg (N := 5) ?hd (cs := #[.int .i64 0]) (t := 3) ?hr ?_; (case hd => rfl); (case hg => rfl); (case hr => first | (go_simp; done) | (go_simp; rfl)); intro E5 hg w11 hbox hb; have Y1 := zg HB hg; have V1 := zg HB hg; have V0 := zn E0 hg; have V2 := zn' E0 hg; have G9 := zn E2 hg; have V3 := zn' E2 hg; have n0_ := Aside0.mk (hbox); replace E0 := zk E0 hb; replace E2 := zk E2 hb; replace HB := zb HB hb; have E4 := n0_; clear n0_; clear hb hbox hg; have E1e := V2.out; have E1f := V0.out; have E1g := V3.out; have E1h := G9.out; obtain ⟨E1i, E1j⟩ := zq1 E4; obtain ⟨E1k, E1l, E1m, E1n, E1o, E1p, E1q, E1r, E1s, E1t, E1u, E1v⟩ := zq6 E2))
  refine bodyPost_ret (results_ct rfl _ _ E8 32 #[.int .i64 0, .int .i64 0, .int .i64 0, .int .i64 0, .int .i64 0, .int .i64 0] (0, 0) _ rfl (by (with_reducible repeat (first | refine blk_drewN ?_ _ | refine blk_drew ?_ | refine blk_alloc ?_ _)); refine blk_put (cs := #[.int .i64 0, .int .i64 0, .int .i64 0, .int .i64 0, .int .i64 0, .int .i64 0]) ?_ 5 _ rfl; (with_reducible repeat (first | refine blk_drewN ?_ _ | refine blk_drew ?_ | refine blk_alloc ?_ _)); refine blk_put (cs := #[.int .i64 0, .int .i64 0, .int .i64 0, .int .i64 0, .int .i64 0, .int .i64 0]) ?_ 4 _ rfl; (with_reducible repeat (first | refine blk_drewN ?_ _ | refine blk_drew ?_ | refine blk_alloc ?_ _)); refine blk_put (cs := #[.int .i64 0, .int .i64 0, .int .i64 0, .int .i64 0, .int .i64 0, .int .i64 0]) ?_ 3 _ rfl; (with_reducible repeat (first | refine blk_drewN ?_ _ | refine blk_drew ?_ | refine blk_alloc ?_ _)); refine blk_put (cs := #[.int .i64 0, .int .i64 0, .int .i64 0, .int .i64 0, .int .i64 0, .int .i64 0]) ?_ 2 _ rfl; (with_reducible repeat (first | refine blk_drewN ?_ _ | refine blk_drew ?_ | refine blk_alloc ?_ _)); refine blk_put (cs := #[.int .i64 0, .int .i64 0, .int .i64 0, .int .i64 0, .int .i64 0, .int .i64 0]) ?_ 1 _ rfl; (with_reducible repeat (first | refine blk_drewN ?_ _ | refine blk_drew ?_ | refine blk_alloc ?_ _)); refine blk_put (cs := #[.int .i64 0, .int .i64 0, .int .i64 0, .int .i64 0, .int .i64 0, .int .i64 0]) ?_ 0 _ rfl; (with_reducible repeat (first | refine blk_drewN ?_ _ | refine blk_drew ?_ | refine blk_alloc ?_ _)); refine blk_far ?_ G9.out _; (with_reducible repeat (first | refine blk_drewN ?_ _ | refine blk_drew ?_ | refine blk_alloc ?_ _)); exact E2.out) Try.underlying32 rfl (by kernel_rfl)) rfl ?_
  exact ⟨by first | rfl | (simp [errW_none, errW_some] <;> rfl) | (simp [*, errW_none, errW_some] <;> rfl), by repeat (first | (with_reducible first | exact HB.out | apply below_alloc | apply pw_below_drewN | apply below_drew1 | refine below_set ?_ G6.out | refine below_set ?_ V1.out) | exact HB.out)⟩
 rw [if_neg c4] at H
 have V9 : ((wrap64 ((wrap64 (a0_0 * a0_3)) - (wrap64 (a0_1 * a0_2)))) == 0) = false := beq_eq_false_iff_ne.mpr c4
 have Y0 : ((wrap64 ((wrap64 (a0_0 * a0_3)) - (wrap64 (a0_1 * a0_2)))) != 0) = true := bne_iff_ne.mpr c4
 replace H := Option.bind_eq_some_iff.mp H
 obtain ⟨t156, A160, H⟩ := H
 try dsimp only at H
 have A16 := Aside0.mk A160
 clear A160
 replace H := Option.bind_eq_some_iff.mp H
 obtain ⟨t157, A170, H⟩ := H
 try dsimp only at H
 have A17 := Aside0.mk A170
 clear A170
 replace H := Option.bind_eq_some_iff.mp H
 obtain ⟨t158, A180, H⟩ := H
 try dsimp only at H
 have A18 := Aside0.mk A180
 clear A180
 replace H := Option.bind_eq_some_iff.mp H
 obtain ⟨t159, A190, H⟩ := H
 try dsimp only at H
 have A19 := Aside0.mk A190
 clear A190
 replace H := Option.bind_eq_some_iff.mp H
 obtain ⟨t161, A200, H⟩ := H
 try dsimp only at H
 have A20 := Aside0.mk A200
 clear A200
 have HX_ := Aside0.mk H
 clear H
 go_enter Try.func26, Try.ntmps26
 try go_wp2_with (first | ((with_reducible refine gate_dst (N := 1) rfl ?_); refine box_event ?hg (N := 1) ?hd (cs := #[.int .i64 a0_0, .int .i64 a0_1, .int .i64 a0_2, .int .i64 a0_3, .int .i64 a0_4, .int .i64 a0_5]) (t := 32) ?hr ?_; (case hd => rfl); (case hg => rfl); (case hr => first | (go_simp; done) | (go_simp; rfl)); intro E1 hg w26 hbox hb; have V4 := zg HB hg; have V5 := zg HB hg; have n0_ := Aside0.mk (hbox); replace HB := zb HB hb; have E0 := n0_; clear n0_; clear hb hbox hg) | ((with_reducible refine gate_dst (N := 2) rfl ?_); refine box_event ?hg (N := 2) ?hd (cs := #[.int .i64 0, .int .i64 0, .int .i64 0, .int .i64 0, .int .i64 0, .int .i64 0]) (t := 32) ?hr ?_; (case hd => rfl); (case hg => rfl); (case hr => first | (go_simp; done) | (go_simp; rfl)); intro E8 hg w27 hbox hb; have V6 := zg HB hg; have G6 := zg HB hg; have G7 := zn E0 hg; have G8 := zn' E0 hg; have n0_ := Aside0.mk (hbox); replace E0 := zk E0 hb; replace HB := zb HB hb; have E2 := n0_; clear n0_; clear hb hbox hg; have E1w := G7.out; have E1x := G8.out; obtain ⟨E1y, E1z, E1A, E1B, E1C, E1D, E1E, E1F, E1G, E1H, E1I, E1J⟩ := zq6 E0) | ((with_reducible refine gate_callee (f := 46) rfl ?_); refine goesL_ (some 9) rfl rfl Try.func46 (by kernel_rfl) rfl #[.agg #[.int .i64 a0_0, .int .i64 a0_1, .int .i64 a0_2, .int .i64 a0_3, .int .i64 a0_4, .int .i64 a0_5]] rfl (by (try simp only [List.map_toArray, List.map_cons, List.map_nil]); first | done | rfl | (simp only [List.length_drop, List.length_take]; rfl)) ?_; (with_reducible refine (affine_Check.calls a0_0 a0_1 a0_2 a0_3 a0_4 a0_5 t154 _ A2.out).mono ?_); rintro e w30 ⟨rfl, hb⟩; refine ⟨_, rfl, ?_⟩; replace E0 := zk E0 hb; replace E2 := zk E2 hb; replace HB := zb HB hb; (try clear hb); obtain ⟨E1K, E1L, E1M, E1N, E1O, E1P, E1Q, E1R, E1S, E1T, E1U, E1V⟩ := zq6 E0) | ((with_reducible refine gate_dst (N := 5) rfl ?_); refine box_event ?hg (N := 5) ?hd (cs := #[.int .i64 0]) (t := 3) ?hr ?_; (case hd => rfl); (case hg => rfl); (case hr => first | (go_simp; done) | (go_simp; rfl)); intro E5 hg w32 hbox hb; have Y1 := zg HB hg; have V1 := zg HB hg; have V0 := zn E0 hg; have V2 := zn' E0 hg; have G9 := zn E2 hg; have V3 := zn' E2 hg; have n0_ := Aside0.mk (hbox); replace E0 := zk E0 hb; replace E2 := zk E2 hb; replace HB := zb HB hb; have E4 := n0_; clear n0_; clear hb hbox hg; have E1W := V2.out; have E1X := V0.out; have E1Y := V3.out; have E1Z := G9.out; obtain ⟨E2a, E2b⟩ := zq1 E4))
 have n0_ : Aside0 ((w32.setCell ⟨E5, 0, none⟩ (.int .i64 (wrap64 ((wrap64 (a0_0 * a0_3)) - (wrap64 (a0_1 * a0_2)))))).heap[E1]? = some (.cells #[.int .i64 a0_0, .int .i64 a0_1, .int .i64 a0_2, .int .i64 a0_3, .int .i64 a0_4, .int .i64 a0_5] 32 (0, 0))) := ⟨by exact zf E0 V0⟩
 have n1_ : Aside0 ((w32.setCell ⟨E5, 0, none⟩ (.int .i64 (wrap64 ((wrap64 (a0_0 * a0_3)) - (wrap64 (a0_1 * a0_2)))))).heap[E8]? = some (.cells #[.int .i64 0, .int .i64 0, .int .i64 0, .int .i64 0, .int .i64 0, .int .i64 0] 32 (0, 0))) := ⟨by exact zf E2 G9⟩
 have n2_ : Aside0 ((w32.setCell ⟨E5, 0, none⟩ (.int .i64 (wrap64 ((wrap64 (a0_0 * a0_3)) - (wrap64 (a0_1 * a0_2)))))).heap[E5]? = some (.cells #[.int .i64 (wrap64 ((wrap64 (a0_0 * a0_3)) - (wrap64 (a0_1 * a0_2))))] 3 (0, 0))) := ⟨by exact zp E4 rfl⟩
 have n3_ : Aside0 (Below w.heap.size w (w32.setCell ⟨E5, 0, none⟩ (.int .i64 (wrap64 ((wrap64 (a0_0 * a0_3)) - (wrap64 (a0_1 * a0_2))))))) := ⟨by exact zbo HB V1⟩
 (try clear E0)
 (try clear E2)
 (try clear E4)
 (try clear HB)
 generalize (w32.setCell ⟨E5, 0, none⟩ (.int .i64 (wrap64 ((wrap64 (a0_0 * a0_3)) - (wrap64 (a0_1 * a0_2)))))) = w36 at n0_ n1_ n2_ n3_ ⊢
 have E0 := n0_
 have E2 := n1_
 have E4 := n2_
 have HB := n3_
 clear n0_ n1_ n2_ n3_
 replace E0 := zkd E0
 replace E2 := zkd E2
 replace E4 := zkd E4
 replace HB := zbd HB
 refine start_ (n := 21) (S := fun w' => w'.cell? ⟨E1, 0, none⟩ = some (.int .i64 a0_0) ∧ w'.cell? ⟨E1, 1, none⟩ = some (.int .i64 a0_1) ∧ w'.cell? ⟨E1, 2, none⟩ = some (.int .i64 a0_2) ∧ w'.cell? ⟨E1, 3, none⟩ = some (.int .i64 a0_3) ∧ w'.cell? ⟨E1, 4, none⟩ = some (.int .i64 a0_4) ∧ w'.cell? ⟨E1, 5, none⟩ = some (.int .i64 a0_5)) (ds := []) (bs 21 0) (by kernel_rfl) rfl rfl ⟨(blk_cell E0.out 0).trans rfl, (blk_cell E0.out 1).trans rfl, (blk_cell E0.out 2).trans rfl, (blk_cell E0.out 3).trans rfl, (blk_cell E0.out 4).trans rfl, (blk_cell E0.out 5).trans rfl⟩ (fun hHeld => ?_); refine with_tabW affine_Inverse.tab8 affine_Inverse.bits8 (fun HT_ HW_ => ?_)
 generalize w36.drew = w37 at E0 E2 E4 HB hHeld ⊢
 refine pure_ (i := 0) (N := some 29) (v := ?_) (a' := ?_) (bs 21 1) rfl rfl (any_of HT_.out (by kernel_rfl)) (fun _ _ _ h => h) (Or.inl ⟨by rfl, ?_⟩) ?_ ?_
 rotate_left
 ·intro w'
  go_simp
  with_reducible rfl
 rotate_left
 ·simp only [Act.put, sA, sB, sC, i64_w, i32_w]
  rfl
 refine pure_ (i := 1) (N := some 30) (v := ?_) (a' := ?_) (bs 21 3) rfl rfl (any_of HT_.out (by kernel_rfl)) (fun _ _ _ h => h) (Or.inl ⟨by rfl, ?_⟩) ?_ ?_
 rotate_left
 ·intro w'
  go_simp
  with_reducible rfl
 rotate_left
 ·simp only [Act.put, sA, sB, sC, i64_w, i32_w]
  rfl
 refine pure_ (i := 4) (N := some 33) (v := ?_) (a' := ?_) (bs 21 19) rfl rfl (any_of HT_.out (by kernel_rfl)) (fun _ _ _ h => h) (Or.inl ⟨by rfl, ?_⟩) ?_ ?_
 rotate_left
 ·intro w'
  go_simp
  with_reducible rfl
 rotate_left
 ·simp only [Act.put, sA, sB, sC, i64_w, i32_w]
  rfl
 refine pure_ (i := 5) (N := some 34) (v := ?_) (a' := ?_) (bs 21 51) rfl rfl (any_of HT_.out (by kernel_rfl)) (fun _ _ _ h => h) (Or.inl ⟨by rfl, ?_⟩) ?_ ?_
 rotate_left
 ·intro w'
  go_simp
  with_reducible rfl
 rotate_left
 ·simp only [Act.put, sA, sB, sC, i64_w, i32_w]
  rfl
 refine pure_ (i := 9) (N := some 38) (v := ?_) (a' := ?_) (bs 21 563) rfl rfl (any_of HT_.out (by kernel_rfl)) (fun _ _ _ h => h) (Or.inl ⟨by rfl, ?_⟩) ?_ ?_
 rotate_left
 ·intro w'
  go_simp
  with_reducible rfl
 rotate_left
 ·simp only [Act.put, sA, sB, sC, i64_w, i32_w]
  rfl
 refine pure_ (i := 10) (N := some 39) (v := ?_) (a' := ?_) (bs 21 1587) rfl rfl (any_of HT_.out (by kernel_rfl)) (fun _ _ _ h => h) (Or.inl ⟨by rfl, ?_⟩) ?_ ?_
 rotate_left
 ·intro w'
  go_simp
  with_reducible rfl
 rotate_left
 ·simp only [Act.put, sA, sB, sC, i64_w, i32_w]
  rfl
 refine pure_ (i := 14) (N := some 43) (v := ?_) (a' := ?_) (bs 21 17971) rfl rfl (any_of HT_.out (by kernel_rfl)) (fun _ _ _ h => h) (Or.inl ⟨by rfl, ?_⟩) ?_ ?_
 rotate_left
 ·intro w'
  go_simp
  with_reducible rfl
 rotate_left
 ·simp only [Act.put, sA, sB, sC, i64_w, i32_w]
  rfl
 refine pure_ (i := 15) (N := some 44) (v := ?_) (a' := ?_) (bs 21 50739) rfl rfl (any_of HT_.out (by kernel_rfl)) (fun _ _ _ h => h) (Or.inl ⟨by rfl, ?_⟩) ?_ ?_
 rotate_left
 ·intro w'
  go_simp
  with_reducible rfl
 rotate_left
 ·simp only [Act.put, sA, sB, sC, i64_w, i32_w]
  rfl
 refine take_ (i := 2) (N := some 31) (v := ?_) (a' := ?_) (bs 21 50743) rfl rfl (take_ofW HT_.out HW_.out (by kernel_rfl)) (fun _ _ _ h => h) (Or.inl ⟨by rfl, ?_⟩) hHeld ?_ ?_
 rotate_left
 ·rintro w' ⟨s0, s1, s2, s3, s4, s5⟩
  go_simp
  with_reducible rfl
 rotate_left
 ·simp only [Act.put, sA, sB, sC, i64_w, i32_w]
  rfl
 refine take_ (i := 6) (N := some 35) (v := ?_) (a' := ?_) (bs 21 50807) rfl rfl (take_ofW HT_.out HW_.out (by kernel_rfl)) (fun _ _ _ h => h) (Or.inl ⟨by rfl, ?_⟩) hHeld ?_ ?_
 rotate_left
 ·rintro w' ⟨s0, s1, s2, s3, s4, s5⟩
  go_simp
  with_reducible rfl
 rotate_left
 ·simp only [Act.put, sA, sB, sC, i64_w, i32_w]
  rfl
 refine pure_ (i := 7) (N := some 36) (v := ?_) (a' := ?_) (bs 21 50935) rfl rfl (any_of HT_.out (by kernel_rfl)) (fun _ _ _ h => h) (Or.inl ⟨by rfl, ?_⟩) ?_ ?_
 rotate_left
 ·intro w'
  go_simp
  with_reducible rfl
 rotate_left
 ·simp only [Act.put, sA, sB, sC, i64_w, i32_w]
  rfl
 refine take_ (i := 11) (N := some 40) (v := ?_) (a' := ?_) (bs 21 52983) rfl rfl (take_ofW HT_.out HW_.out (by kernel_rfl)) (fun _ _ _ h => h) (Or.inl ⟨by rfl, ?_⟩) hHeld ?_ ?_
 rotate_left
 ·rintro w' ⟨s0, s1, s2, s3, s4, s5⟩
  go_simp
  with_reducible rfl
 rotate_left
 ·simp only [Act.put, sA, sB, sC, i64_w, i32_w]
  rfl
 refine pure_ (i := 12) (N := some 41) (v := ?_) (a' := ?_) (bs 21 57079) rfl rfl (any_of HT_.out (by kernel_rfl)) (fun _ _ _ h => h) (Or.inl ⟨by rfl, ?_⟩) ?_ ?_
 rotate_left
 ·intro w'
  go_simp
  with_reducible rfl
 rotate_left
 ·simp only [Act.put, sA, sB, sC, i64_w, i32_w]
  rfl
 refine take_ (i := 16) (N := some 45) (v := ?_) (a' := ?_) (bs 21 122615) rfl rfl (take_ofW HT_.out HW_.out (by kernel_rfl)) (fun _ _ _ h => h) (Or.inl ⟨by rfl, ?_⟩) hHeld ?_ ?_
 rotate_left
 ·rintro w' ⟨s0, s1, s2, s3, s4, s5⟩
  go_simp
  with_reducible rfl
 rotate_left
 ·simp only [Act.put, sA, sB, sC, i64_w, i32_w]
  rfl
 refine join_ (σ := Nat) 1 (bs 21 1048575) (fun s_ => [(32, .int .i64 t156), (37, .int .i64 t157), (42, .int .i64 t158), (46, .int .i64 t159), (7, .pointer (some ⟨s_, 0, none⟩)), (47, .agg #[.int .i64 t156, .int .i64 t157, .int .i64 t158, .int .i64 t159, .int .i64 0, .int .i64 0])]) (fun s_ w' => (w'.cell? ⟨E1, 0, none⟩ = some (.int .i64 a0_0) ∧ w'.cell? ⟨E1, 1, none⟩ = some (.int .i64 a0_1) ∧ w'.cell? ⟨E1, 2, none⟩ = some (.int .i64 a0_2) ∧ w'.cell? ⟨E1, 3, none⟩ = some (.int .i64 a0_3) ∧ w'.cell? ⟨E1, 4, none⟩ = some (.int .i64 a0_4) ∧ w'.cell? ⟨E1, 5, none⟩ = some (.int .i64 a0_5)) ∧ (w'.heap[E1]? = some (.cells #[.int .i64 a0_0, .int .i64 a0_1, .int .i64 a0_2, .int .i64 a0_3, .int .i64 a0_4, .int .i64 a0_5] 32 (0, 0))) ∧ (w'.heap[E8]? = some (.cells #[.int .i64 0, .int .i64 0, .int .i64 0, .int .i64 0, .int .i64 0, .int .i64 0] 32 (0, 0))) ∧ (w'.heap[E5]? = some (.cells #[.int .i64 (wrap64 ((wrap64 (a0_0 * a0_3)) - (wrap64 (a0_1 * a0_2))))] 3 (0, 0))) ∧ (w'.heap[s_]? = some (.cells #[.int .i64 0, .int .i64 0, .int .i64 0, .int .i64 0, .int .i64 0, .int .i64 0] 32 (0, 0))) ∧ (w.heap.size ≤ s_) ∧ (w.heap.size ≤ s_) ∧ (E1 ≠ s_) ∧ (s_ ≠ E1) ∧ (E8 ≠ s_) ∧ (s_ ≠ E8) ∧ (E5 ≠ s_) ∧ (s_ ≠ E5) ∧ (Below w.heap.size w w')) ?_ ?_
 rotate_left
 ·intro hJ3_8_13_17_19
  refine join_ (σ := Unit) 2 (bs 21 524287) (fun s_ => [(32, .int .i64 t156), (37, .int .i64 t157), (42, .int .i64 t158), (46, .int .i64 t159), (47, .agg #[.int .i64 t156, .int .i64 t157, .int .i64 t158, .int .i64 t159, .int .i64 0, .int .i64 0])]) (fun s_ w' => (w'.cell? ⟨E1, 0, none⟩ = some (.int .i64 a0_0) ∧ w'.cell? ⟨E1, 1, none⟩ = some (.int .i64 a0_1) ∧ w'.cell? ⟨E1, 2, none⟩ = some (.int .i64 a0_2) ∧ w'.cell? ⟨E1, 3, none⟩ = some (.int .i64 a0_3) ∧ w'.cell? ⟨E1, 4, none⟩ = some (.int .i64 a0_4) ∧ w'.cell? ⟨E1, 5, none⟩ = some (.int .i64 a0_5)) ∧ (w'.heap[E1]? = some (.cells #[.int .i64 a0_0, .int .i64 a0_1, .int .i64 a0_2, .int .i64 a0_3, .int .i64 a0_4, .int .i64 a0_5] 32 (0, 0))) ∧ (w'.heap[E8]? = some (.cells #[.int .i64 0, .int .i64 0, .int .i64 0, .int .i64 0, .int .i64 0, .int .i64 0] 32 (0, 0))) ∧ (w'.heap[E5]? = some (.cells #[.int .i64 (wrap64 ((wrap64 (a0_0 * a0_3)) - (wrap64 (a0_1 * a0_2))))] 3 (0, 0))) ∧ (Below w.heap.size w w')) ?_ ?_
  rotate_left
  ·intro hJ3_8_13_17
   refine join_ (σ := Nat) 3 (bs 21 655359) (fun s_ => [(32, .int .i64 t156), (37, .int .i64 t157), (42, .int .i64 t158), (7, .pointer (some ⟨s_, 0, none⟩))]) (fun s_ w' => (w'.cell? ⟨E1, 0, none⟩ = some (.int .i64 a0_0) ∧ w'.cell? ⟨E1, 1, none⟩ = some (.int .i64 a0_1) ∧ w'.cell? ⟨E1, 2, none⟩ = some (.int .i64 a0_2) ∧ w'.cell? ⟨E1, 3, none⟩ = some (.int .i64 a0_3) ∧ w'.cell? ⟨E1, 4, none⟩ = some (.int .i64 a0_4) ∧ w'.cell? ⟨E1, 5, none⟩ = some (.int .i64 a0_5)) ∧ (w'.heap[E1]? = some (.cells #[.int .i64 a0_0, .int .i64 a0_1, .int .i64 a0_2, .int .i64 a0_3, .int .i64 a0_4, .int .i64 a0_5] 32 (0, 0))) ∧ (w'.heap[E8]? = some (.cells #[.int .i64 0, .int .i64 0, .int .i64 0, .int .i64 0, .int .i64 0, .int .i64 0] 32 (0, 0))) ∧ (w'.heap[E5]? = some (.cells #[.int .i64 (wrap64 ((wrap64 (a0_0 * a0_3)) - (wrap64 (a0_1 * a0_2))))] 3 (0, 0))) ∧ (w'.heap[s_]? = some (.cells #[.int .i64 0, .int .i64 0, .int .i64 0, .int .i64 0, .int .i64 0, .int .i64 0] 32 (0, 0))) ∧ (w.heap.size ≤ s_) ∧ (w.heap.size ≤ s_) ∧ (E1 ≠ s_) ∧ (s_ ≠ E1) ∧ (E8 ≠ s_) ∧ (s_ ≠ E8) ∧ (E5 ≠ s_) ∧ (s_ ≠ E5) ∧ (Below w.heap.size w w')) ?_ ?_
   rotate_left
   ·intro hJ3_8_13_19
    refine join_ (σ := Unit) 4 (bs 21 131071) (fun s_ => [(32, .int .i64 t156), (37, .int .i64 t157), (42, .int .i64 t158)]) (fun s_ w' => (w'.cell? ⟨E1, 0, none⟩ = some (.int .i64 a0_0) ∧ w'.cell? ⟨E1, 1, none⟩ = some (.int .i64 a0_1) ∧ w'.cell? ⟨E1, 2, none⟩ = some (.int .i64 a0_2) ∧ w'.cell? ⟨E1, 3, none⟩ = some (.int .i64 a0_3) ∧ w'.cell? ⟨E1, 4, none⟩ = some (.int .i64 a0_4) ∧ w'.cell? ⟨E1, 5, none⟩ = some (.int .i64 a0_5)) ∧ (w'.heap[E1]? = some (.cells #[.int .i64 a0_0, .int .i64 a0_1, .int .i64 a0_2, .int .i64 a0_3, .int .i64 a0_4, .int .i64 a0_5] 32 (0, 0))) ∧ (w'.heap[E8]? = some (.cells #[.int .i64 0, .int .i64 0, .int .i64 0, .int .i64 0, .int .i64 0, .int .i64 0] 32 (0, 0))) ∧ (w'.heap[E5]? = some (.cells #[.int .i64 (wrap64 ((wrap64 (a0_0 * a0_3)) - (wrap64 (a0_1 * a0_2))))] 3 (0, 0))) ∧ (Below w.heap.size w w')) ?_ ?_
    rotate_left
    ·intro hJ3_8_13
     refine join_ (σ := Nat) 4 (bs 21 647167) (fun s_ => [(32, .int .i64 t156), (37, .int .i64 t157), (7, .pointer (some ⟨s_, 0, none⟩))]) (fun s_ w' => (w'.cell? ⟨E1, 0, none⟩ = some (.int .i64 a0_0) ∧ w'.cell? ⟨E1, 1, none⟩ = some (.int .i64 a0_1) ∧ w'.cell? ⟨E1, 2, none⟩ = some (.int .i64 a0_2) ∧ w'.cell? ⟨E1, 3, none⟩ = some (.int .i64 a0_3) ∧ w'.cell? ⟨E1, 4, none⟩ = some (.int .i64 a0_4) ∧ w'.cell? ⟨E1, 5, none⟩ = some (.int .i64 a0_5)) ∧ (w'.heap[E1]? = some (.cells #[.int .i64 a0_0, .int .i64 a0_1, .int .i64 a0_2, .int .i64 a0_3, .int .i64 a0_4, .int .i64 a0_5] 32 (0, 0))) ∧ (w'.heap[E8]? = some (.cells #[.int .i64 0, .int .i64 0, .int .i64 0, .int .i64 0, .int .i64 0, .int .i64 0] 32 (0, 0))) ∧ (w'.heap[E5]? = some (.cells #[.int .i64 (wrap64 ((wrap64 (a0_0 * a0_3)) - (wrap64 (a0_1 * a0_2))))] 3 (0, 0))) ∧ (w'.heap[s_]? = some (.cells #[.int .i64 0, .int .i64 0, .int .i64 0, .int .i64 0, .int .i64 0, .int .i64 0] 32 (0, 0))) ∧ (w.heap.size ≤ s_) ∧ (w.heap.size ≤ s_) ∧ (E1 ≠ s_) ∧ (s_ ≠ E1) ∧ (E8 ≠ s_) ∧ (s_ ≠ E8) ∧ (E5 ≠ s_) ∧ (s_ ≠ E5) ∧ (Below w.heap.size w w')) ?_ ?_
     rotate_left
     ·intro hJ3_8_19
      refine join_ (σ := Unit) 5 (bs 21 122879) (fun s_ => [(32, .int .i64 t156), (37, .int .i64 t157)]) (fun s_ w' => (w'.cell? ⟨E1, 0, none⟩ = some (.int .i64 a0_0) ∧ w'.cell? ⟨E1, 1, none⟩ = some (.int .i64 a0_1) ∧ w'.cell? ⟨E1, 2, none⟩ = some (.int .i64 a0_2) ∧ w'.cell? ⟨E1, 3, none⟩ = some (.int .i64 a0_3) ∧ w'.cell? ⟨E1, 4, none⟩ = some (.int .i64 a0_4) ∧ w'.cell? ⟨E1, 5, none⟩ = some (.int .i64 a0_5)) ∧ (w'.heap[E1]? = some (.cells #[.int .i64 a0_0, .int .i64 a0_1, .int .i64 a0_2, .int .i64 a0_3, .int .i64 a0_4, .int .i64 a0_5] 32 (0, 0))) ∧ (w'.heap[E8]? = some (.cells #[.int .i64 0, .int .i64 0, .int .i64 0, .int .i64 0, .int .i64 0, .int .i64 0] 32 (0, 0))) ∧ (w'.heap[E5]? = some (.cells #[.int .i64 (wrap64 ((wrap64 (a0_0 * a0_3)) - (wrap64 (a0_1 * a0_2))))] 3 (0, 0))) ∧ (Below w.heap.size w w')) ?_ ?_
      rotate_left
      ·intro hJ3_8
       refine join_ (σ := Nat) 5 (bs 21 646911) (fun s_ => [(32, .int .i64 t156), (7, .pointer (some ⟨s_, 0, none⟩))]) (fun s_ w' => (w'.cell? ⟨E1, 0, none⟩ = some (.int .i64 a0_0) ∧ w'.cell? ⟨E1, 1, none⟩ = some (.int .i64 a0_1) ∧ w'.cell? ⟨E1, 2, none⟩ = some (.int .i64 a0_2) ∧ w'.cell? ⟨E1, 3, none⟩ = some (.int .i64 a0_3) ∧ w'.cell? ⟨E1, 4, none⟩ = some (.int .i64 a0_4) ∧ w'.cell? ⟨E1, 5, none⟩ = some (.int .i64 a0_5)) ∧ (w'.heap[E1]? = some (.cells #[.int .i64 a0_0, .int .i64 a0_1, .int .i64 a0_2, .int .i64 a0_3, .int .i64 a0_4, .int .i64 a0_5] 32 (0, 0))) ∧ (w'.heap[E8]? = some (.cells #[.int .i64 0, .int .i64 0, .int .i64 0, .int .i64 0, .int .i64 0, .int .i64 0] 32 (0, 0))) ∧ (w'.heap[E5]? = some (.cells #[.int .i64 (wrap64 ((wrap64 (a0_0 * a0_3)) - (wrap64 (a0_1 * a0_2))))] 3 (0, 0))) ∧ (w'.heap[s_]? = some (.cells #[.int .i64 0, .int .i64 0, .int .i64 0, .int .i64 0, .int .i64 0, .int .i64 0] 32 (0, 0))) ∧ (w.heap.size ≤ s_) ∧ (w.heap.size ≤ s_) ∧ (E1 ≠ s_) ∧ (s_ ≠ E1) ∧ (E8 ≠ s_) ∧ (s_ ≠ E8) ∧ (E5 ≠ s_) ∧ (s_ ≠ E5) ∧ (Below w.heap.size w w')) ?_ ?_
       rotate_left
       ·intro hJ3_19
        refine join_ (σ := Unit) 6 (bs 21 122623) (fun s_ => [(32, .int .i64 t156)]) (fun s_ w' => (w'.cell? ⟨E1, 0, none⟩ = some (.int .i64 a0_0) ∧ w'.cell? ⟨E1, 1, none⟩ = some (.int .i64 a0_1) ∧ w'.cell? ⟨E1, 2, none⟩ = some (.int .i64 a0_2) ∧ w'.cell? ⟨E1, 3, none⟩ = some (.int .i64 a0_3) ∧ w'.cell? ⟨E1, 4, none⟩ = some (.int .i64 a0_4) ∧ w'.cell? ⟨E1, 5, none⟩ = some (.int .i64 a0_5)) ∧ (w'.heap[E1]? = some (.cells #[.int .i64 a0_0, .int .i64 a0_1, .int .i64 a0_2, .int .i64 a0_3, .int .i64 a0_4, .int .i64 a0_5] 32 (0, 0))) ∧ (w'.heap[E8]? = some (.cells #[.int .i64 0, .int .i64 0, .int .i64 0, .int .i64 0, .int .i64 0, .int .i64 0] 32 (0, 0))) ∧ (w'.heap[E5]? = some (.cells #[.int .i64 (wrap64 ((wrap64 (a0_0 * a0_3)) - (wrap64 (a0_1 * a0_2))))] 3 (0, 0))) ∧ (Below w.heap.size w w')) ?_ ?_
        rotate_left
        ·intro hJ3
         refine join_ (σ := Nat) 6 (bs 21 646903) (fun s_ => [(7, .pointer (some ⟨s_, 0, none⟩))]) (fun s_ w' => (w'.cell? ⟨E1, 0, none⟩ = some (.int .i64 a0_0) ∧ w'.cell? ⟨E1, 1, none⟩ = some (.int .i64 a0_1) ∧ w'.cell? ⟨E1, 2, none⟩ = some (.int .i64 a0_2) ∧ w'.cell? ⟨E1, 3, none⟩ = some (.int .i64 a0_3) ∧ w'.cell? ⟨E1, 4, none⟩ = some (.int .i64 a0_4) ∧ w'.cell? ⟨E1, 5, none⟩ = some (.int .i64 a0_5)) ∧ (w'.heap[E1]? = some (.cells #[.int .i64 a0_0, .int .i64 a0_1, .int .i64 a0_2, .int .i64 a0_3, .int .i64 a0_4, .int .i64 a0_5] 32 (0, 0))) ∧ (w'.heap[E8]? = some (.cells #[.int .i64 0, .int .i64 0, .int .i64 0, .int .i64 0, .int .i64 0, .int .i64 0] 32 (0, 0))) ∧ (w'.heap[E5]? = some (.cells #[.int .i64 (wrap64 ((wrap64 (a0_0 * a0_3)) - (wrap64 (a0_1 * a0_2))))] 3 (0, 0))) ∧ (w'.heap[s_]? = some (.cells #[.int .i64 0, .int .i64 0, .int .i64 0, .int .i64 0, .int .i64 0, .int .i64 0] 32 (0, 0))) ∧ (w.heap.size ≤ s_) ∧ (w.heap.size ≤ s_) ∧ (E1 ≠ s_) ∧ (s_ ≠ E1) ∧ (E8 ≠ s_) ∧ (s_ ≠ E8) ∧ (E5 ≠ s_) ∧ (s_ ≠ E5) ∧ (Below w.heap.size w w')) ?_ ?_
         rotate_left
         ·intro hJ19
          refine two_ (i := 3) (j := 19) (Ni := some 32) (Nj := some 7) (bs 21 122623) (bs 21 646903) rfl rfl rfl rfl (two_of HT_.out (by kernel_rfl)) (by decide) (by decide) (fun K hK => ?_) (fun K hK => ?_)
          ·skip
           refine goesT_ (t := 29) Try.func47 (by kernel_rfl) rfl #[.pointer (some ⟨E5, 0, none⟩)] #[.int .i64 a0_3, .pointer (some ⟨E5, 0, none⟩)] (by rfl) rfl rfl (by first | rfl | (go_simp; done) | (go_simp; rfl)) (by (try simp only [List.map_toArray, List.map_cons, List.map_nil]); first | done | rfl | (go_simp; done) | (go_simp; rfl)) ?_
           with_reducible refine (affine_Inverse_1.calls k a0_3 E5 (wrap64 ((wrap64 (a0_0 * a0_3)) - (wrap64 (a0_1 * a0_2)))) t156 _ ?side1 A16.out).mono ?_
           (case side1 => exact zk0 E4)
           rintro e w38 ⟨rfl, hb⟩
           refine ⟨_, rfl, ?_⟩
           replace E0 := zk E0 hb
           replace E2 := zk E2 hb
           replace E4 := zk E4 hb
           replace HB := zb HB hb
           (try clear hb)
           (try clear hb2)
           (try clear hk)
           (try clear hi)
           refine hK.out _ _ ⟨(blk_cell E0.out 0).trans rfl, (blk_cell E0.out 1).trans rfl, (blk_cell E0.out 2).trans rfl, (blk_cell E0.out 3).trans rfl, (blk_cell E0.out 4).trans rfl, (blk_cell E0.out 5).trans rfl⟩ (fun hHeld => ?_)
           clear hK K
           refine norm_ (a' := ?_) ?_ ?_
           rotate_left
           ·show Act.put _ (some 32) _ = _
            simp only [Act.put, sA, sB, sC, i64_w, i32_w]
            rfl
           exact norm_ (by first | (simp only [putAll, Act.put, sA, sB, sC]; done) | (simp only [putAll, Act.put, sA, sB, sC]; rfl)) (hJ3 () _ ⟨hHeld, (by exact zk0 E0), (by exact zk0 E2), (by exact zk0 E4), (by exact zb0 HB)⟩)
          ·skip
           refine box_step ?hg (N := 7) ?hd (cs := #[.int .i64 0, .int .i64 0, .int .i64 0, .int .i64 0, .int .i64 0, .int .i64 0]) (t := 32) ?hr ?_; (case hd => rfl); (case hg => rfl); (case hr => first | (go_simp; done) | (go_simp; rfl))
           intro E3 hg w38 hbox hb
           have G5 := zg HB hg
           have G4 := zg HB hg
           have E6 := zn E0 hg
           have G1 := zn' E0 hg
           have E9 := zn E2 hg
           have G2 := zn' E2 hg
           have G0 := zn E4 hg
           have G3 := zn' E4 hg
           have n0_ := Aside0.mk (hbox)
           replace E0 := zk E0 hb
           replace E2 := zk E2 hb
           replace E4 := zk E4 hb
           replace HB := zb HB hb
           have E7 := n0_
           clear n0_
           clear hb hbox hg
           refine hK.out _ _ ⟨(blk_cell E0.out 0).trans rfl, (blk_cell E0.out 1).trans rfl, (blk_cell E0.out 2).trans rfl, (blk_cell E0.out 3).trans rfl, (blk_cell E0.out 4).trans rfl, (blk_cell E0.out 5).trans rfl⟩ (fun hHeld => ?_)
           clear hK K
           refine norm_ (a' := ?_) ?_ ?_
           rotate_left
           ·show Act.put _ (some 7) _ = _
            simp only [Act.put, sA, sB, sC, i64_w, i32_w]
            rfl
           exact norm_ (by first | (simp only [putAll, Act.put, sA, sB, sC]; done) | (simp only [putAll, Act.put, sA, sB, sC]; rfl)) (hJ19 (E3) _ ⟨hHeld, (by exact zk0 E0), (by exact zk0 E2), (by exact zk0 E4), (by exact zk0 E7), G5.out, G4.out, E6.out, G1.out, E9.out, G2.out, G0.out, G3.out, (by exact zb0 HB)⟩)
         ·skip
          rintro E3 w39 ⟨hS_, h0_, h1_, h2_, h3_, h4_, h5_, h6_, h7_, h8_, h9_, h10_, h11_, h12_⟩
          have n0_ : Aside0 (w39.heap[E1]? = some (.cells #[.int .i64 a0_0, .int .i64 a0_1, .int .i64 a0_2, .int .i64 a0_3, .int .i64 a0_4, .int .i64 a0_5] 32 (0, 0))) := ⟨h0_⟩
          have n1_ : Aside0 (w39.heap[E8]? = some (.cells #[.int .i64 0, .int .i64 0, .int .i64 0, .int .i64 0, .int .i64 0, .int .i64 0] 32 (0, 0))) := ⟨h1_⟩
          have n2_ : Aside0 (w39.heap[E5]? = some (.cells #[.int .i64 (wrap64 ((wrap64 (a0_0 * a0_3)) - (wrap64 (a0_1 * a0_2))))] 3 (0, 0))) := ⟨h2_⟩
          have n3_ : Aside0 (w39.heap[E3]? = some (.cells #[.int .i64 0, .int .i64 0, .int .i64 0, .int .i64 0, .int .i64 0, .int .i64 0] 32 (0, 0))) := ⟨h3_⟩
          have n4_ : Aside0 (w.heap.size ≤ E3) := ⟨h4_⟩
          have n5_ : Aside0 (w.heap.size ≤ E3) := ⟨h5_⟩
          have n6_ : Aside0 (E1 ≠ E3) := ⟨h6_⟩
          have n7_ : Aside0 (E3 ≠ E1) := ⟨h7_⟩
          have n8_ : Aside0 (E8 ≠ E3) := ⟨h8_⟩
          have n9_ : Aside0 (E3 ≠ E8) := ⟨h9_⟩
          have n10_ : Aside0 (E5 ≠ E3) := ⟨h10_⟩
          have n11_ : Aside0 (E3 ≠ E5) := ⟨h11_⟩
          have n12_ : Aside0 (Below w.heap.size w w39) := ⟨h12_⟩
          clear E0
          clear E2
          clear E4
          clear HB
          clear h0_ h1_ h2_ h3_ h4_ h5_ h6_ h7_ h8_ h9_ h10_ h11_ h12_
          have E0 := n0_
          have E2 := n1_
          have E4 := n2_
          have E7 := n3_
          have G5 := n4_
          have G4 := n5_
          have E6 := n6_
          have G1 := n7_
          have E9 := n8_
          have G2 := n9_
          have G0 := n10_
          have G3 := n11_
          have HB := n12_
          clear n0_ n1_ n2_ n3_ n4_ n5_ n6_ n7_ n8_ n9_ n10_ n11_ n12_
          have hHeld : w39.cell? ⟨E1, 0, none⟩ = some (.int .i64 a0_0) ∧ w39.cell? ⟨E1, 1, none⟩ = some (.int .i64 a0_1) ∧ w39.cell? ⟨E1, 2, none⟩ = some (.int .i64 a0_2) ∧ w39.cell? ⟨E1, 3, none⟩ = some (.int .i64 a0_3) ∧ w39.cell? ⟨E1, 4, none⟩ = some (.int .i64 a0_4) ∧ w39.cell? ⟨E1, 5, none⟩ = some (.int .i64 a0_5) := hS_
          refine norm_ (a' := ?_) ?_ ?_
          rotate_left
          ·simp only [putAll, Act.put, sA, sB, sC]
           rfl
          refine one_ (i := 3) (N := some 32) (bs 21 646911) rfl rfl (one_of HT_.out (by kernel_rfl)) (by decide) (fun K hK => ?_)
          refine goesT_ (t := 29) Try.func47 (by kernel_rfl) rfl #[.pointer (some ⟨E5, 0, none⟩)] #[.int .i64 a0_3, .pointer (some ⟨E5, 0, none⟩)] (by rfl) rfl rfl (by first | rfl | (go_simp; done) | (go_simp; rfl)) (by (try simp only [List.map_toArray, List.map_cons, List.map_nil]); first | done | rfl | (go_simp; done) | (go_simp; rfl)) ?_
          with_reducible refine (affine_Inverse_1.calls k a0_3 E5 (wrap64 ((wrap64 (a0_0 * a0_3)) - (wrap64 (a0_1 * a0_2)))) t156 _ ?side1 A16.out).mono ?_
          (case side1 => exact zk0 E4)
          rintro e w40 ⟨rfl, hb⟩
          refine ⟨_, rfl, ?_⟩
          replace E0 := zk E0 hb
          replace E2 := zk E2 hb
          replace E4 := zk E4 hb
          replace E7 := zk E7 hb
          replace HB := zb HB hb
          (try clear hb)
          (try clear hb2)
          (try clear hk)
          (try clear hi)
          refine hK.out _ _ ⟨(blk_cell E0.out 0).trans rfl, (blk_cell E0.out 1).trans rfl, (blk_cell E0.out 2).trans rfl, (blk_cell E0.out 3).trans rfl, (blk_cell E0.out 4).trans rfl, (blk_cell E0.out 5).trans rfl⟩ (fun hHeld => ?_)
          clear hK K
          refine norm_ (a' := ?_) ?_ ?_
          rotate_left
          ·show Act.put _ (some 32) _ = _
           simp only [Act.put, sA, sB, sC, i64_w, i32_w]
           rfl
          exact norm_ (by first | (simp only [putAll, Act.put, sA, sB, sC]; done) | (simp only [putAll, Act.put, sA, sB, sC]; rfl)) (hJ3_19 (E3) _ ⟨hHeld, (by exact zk0 E0), (by exact zk0 E2), (by exact zk0 E4), (by exact zk0 E7), G5.out, G4.out, E6.out, G1.out, E9.out, G2.out, G0.out, G3.out, (by exact zb0 HB)⟩)
        ·skip
         rintro _ w39 ⟨hS_, h0_, h1_, h2_, h3_⟩
         have n0_ : Aside0 (w39.heap[E1]? = some (.cells #[.int .i64 a0_0, .int .i64 a0_1, .int .i64 a0_2, .int .i64 a0_3, .int .i64 a0_4, .int .i64 a0_5] 32 (0, 0))) := ⟨h0_⟩
         have n1_ : Aside0 (w39.heap[E8]? = some (.cells #[.int .i64 0, .int .i64 0, .int .i64 0, .int .i64 0, .int .i64 0, .int .i64 0] 32 (0, 0))) := ⟨h1_⟩
         have n2_ : Aside0 (w39.heap[E5]? = some (.cells #[.int .i64 (wrap64 ((wrap64 (a0_0 * a0_3)) - (wrap64 (a0_1 * a0_2))))] 3 (0, 0))) := ⟨h2_⟩
         have n3_ : Aside0 (Below w.heap.size w w39) := ⟨h3_⟩
         clear E0
         clear E2
         clear E4
         clear HB
         clear h0_ h1_ h2_ h3_
         have E0 := n0_
         have E2 := n1_
         have E4 := n2_
         have HB := n3_
         clear n0_ n1_ n2_ n3_
         have hHeld : w39.cell? ⟨E1, 0, none⟩ = some (.int .i64 a0_0) ∧ w39.cell? ⟨E1, 1, none⟩ = some (.int .i64 a0_1) ∧ w39.cell? ⟨E1, 2, none⟩ = some (.int .i64 a0_2) ∧ w39.cell? ⟨E1, 3, none⟩ = some (.int .i64 a0_3) ∧ w39.cell? ⟨E1, 4, none⟩ = some (.int .i64 a0_4) ∧ w39.cell? ⟨E1, 5, none⟩ = some (.int .i64 a0_5) := hS_
         refine norm_ (a' := ?_) ?_ ?_
         rotate_left
         ·simp only [putAll, Act.put, sA, sB, sC]
          rfl
         refine two_ (i := 8) (j := 19) (Ni := some 37) (Nj := some 7) (bs 21 122879) (bs 21 646911) rfl rfl rfl rfl (two_of HT_.out (by kernel_rfl)) (by decide) (by decide) (fun K hK => ?_) (fun K hK => ?_)
         ·skip
          refine goesT_ (t := 33) Try.func47 (by kernel_rfl) rfl #[.pointer (some ⟨E5, 0, none⟩)] #[.int .i64 (wrap64 (-a0_1)), .pointer (some ⟨E5, 0, none⟩)] (by rfl) rfl rfl (by first | rfl | (go_simp; done) | (go_simp; rfl)) (by (try simp only [List.map_toArray, List.map_cons, List.map_nil]); first | done | rfl | (go_simp; done) | (go_simp; rfl)) ?_
          with_reducible refine (affine_Inverse_1.calls k (wrap64 (-a0_1)) E5 (wrap64 ((wrap64 (a0_0 * a0_3)) - (wrap64 (a0_1 * a0_2)))) t157 _ ?side1 A17.out).mono ?_
          (case side1 => exact zk0 E4)
          rintro e w40 ⟨rfl, hb⟩
          refine ⟨_, rfl, ?_⟩
          replace E0 := zk E0 hb
          replace E2 := zk E2 hb
          replace E4 := zk E4 hb
          replace HB := zb HB hb
          (try clear hb)
          (try clear hb2)
          (try clear hk)
          (try clear hi)
          refine hK.out _ _ ⟨(blk_cell E0.out 0).trans rfl, (blk_cell E0.out 1).trans rfl, (blk_cell E0.out 2).trans rfl, (blk_cell E0.out 3).trans rfl, (blk_cell E0.out 4).trans rfl, (blk_cell E0.out 5).trans rfl⟩ (fun hHeld => ?_)
          clear hK K
          refine norm_ (a' := ?_) ?_ ?_
          rotate_left
          ·show Act.put _ (some 37) _ = _
           simp only [Act.put, sA, sB, sC, i64_w, i32_w]
           rfl
          exact norm_ (by first | (simp only [putAll, Act.put, sA, sB, sC]; done) | (simp only [putAll, Act.put, sA, sB, sC]; rfl)) (hJ3_8 () _ ⟨hHeld, (by exact zk0 E0), (by exact zk0 E2), (by exact zk0 E4), (by exact zb0 HB)⟩)
         ·skip
          refine box_step ?hg (N := 7) ?hd (cs := #[.int .i64 0, .int .i64 0, .int .i64 0, .int .i64 0, .int .i64 0, .int .i64 0]) (t := 32) ?hr ?_; (case hd => rfl); (case hg => rfl); (case hr => first | (go_simp; done) | (go_simp; rfl))
          intro E3 hg w40 hbox hb
          have G5 := zg HB hg
          have G4 := zg HB hg
          have E6 := zn E0 hg
          have G1 := zn' E0 hg
          have E9 := zn E2 hg
          have G2 := zn' E2 hg
          have G0 := zn E4 hg
          have G3 := zn' E4 hg
          have n0_ := Aside0.mk (hbox)
          replace E0 := zk E0 hb
          replace E2 := zk E2 hb
          replace E4 := zk E4 hb
          replace HB := zb HB hb
          have E7 := n0_
          clear n0_
          clear hb hbox hg
          refine hK.out _ _ ⟨(blk_cell E0.out 0).trans rfl, (blk_cell E0.out 1).trans rfl, (blk_cell E0.out 2).trans rfl, (blk_cell E0.out 3).trans rfl, (blk_cell E0.out 4).trans rfl, (blk_cell E0.out 5).trans rfl⟩ (fun hHeld => ?_)
          clear hK K
          refine norm_ (a' := ?_) ?_ ?_
          rotate_left
          ·show Act.put _ (some 7) _ = _
           simp only [Act.put, sA, sB, sC, i64_w, i32_w]
           rfl
          exact norm_ (by first | (simp only [putAll, Act.put, sA, sB, sC]; done) | (simp only [putAll, Act.put, sA, sB, sC]; rfl)) (hJ3_19 (E3) _ ⟨hHeld, (by exact zk0 E0), (by exact zk0 E2), (by exact zk0 E4), (by exact zk0 E7), G5.out, G4.out, E6.out, G1.out, E9.out, G2.out, G0.out, G3.out, (by exact zb0 HB)⟩)
       ·skip
        rintro E3 w40 ⟨hS_, h0_, h1_, h2_, h3_, h4_, h5_, h6_, h7_, h8_, h9_, h10_, h11_, h12_⟩
        have n0_ : Aside0 (w40.heap[E1]? = some (.cells #[.int .i64 a0_0, .int .i64 a0_1, .int .i64 a0_2, .int .i64 a0_3, .int .i64 a0_4, .int .i64 a0_5] 32 (0, 0))) := ⟨h0_⟩
        have n1_ : Aside0 (w40.heap[E8]? = some (.cells #[.int .i64 0, .int .i64 0, .int .i64 0, .int .i64 0, .int .i64 0, .int .i64 0] 32 (0, 0))) := ⟨h1_⟩
        have n2_ : Aside0 (w40.heap[E5]? = some (.cells #[.int .i64 (wrap64 ((wrap64 (a0_0 * a0_3)) - (wrap64 (a0_1 * a0_2))))] 3 (0, 0))) := ⟨h2_⟩
        have n3_ : Aside0 (w40.heap[E3]? = some (.cells #[.int .i64 0, .int .i64 0, .int .i64 0, .int .i64 0, .int .i64 0, .int .i64 0] 32 (0, 0))) := ⟨h3_⟩
        have n4_ : Aside0 (w.heap.size ≤ E3) := ⟨h4_⟩
        have n5_ : Aside0 (w.heap.size ≤ E3) := ⟨h5_⟩
        have n6_ : Aside0 (E1 ≠ E3) := ⟨h6_⟩
        have n7_ : Aside0 (E3 ≠ E1) := ⟨h7_⟩
        have n8_ : Aside0 (E8 ≠ E3) := ⟨h8_⟩
        have n9_ : Aside0 (E3 ≠ E8) := ⟨h9_⟩
        have n10_ : Aside0 (E5 ≠ E3) := ⟨h10_⟩
        have n11_ : Aside0 (E3 ≠ E5) := ⟨h11_⟩
        have n12_ : Aside0 (Below w.heap.size w w40) := ⟨h12_⟩
        clear E0
        clear E2
        clear E4
        clear HB
        clear h0_ h1_ h2_ h3_ h4_ h5_ h6_ h7_ h8_ h9_ h10_ h11_ h12_
        have E0 := n0_
        have E2 := n1_
        have E4 := n2_
        have E7 := n3_
        have G5 := n4_
        have G4 := n5_
        have E6 := n6_
        have G1 := n7_
        have E9 := n8_
        have G2 := n9_
        have G0 := n10_
        have G3 := n11_
        have HB := n12_
        clear n0_ n1_ n2_ n3_ n4_ n5_ n6_ n7_ n8_ n9_ n10_ n11_ n12_
        have hHeld : w40.cell? ⟨E1, 0, none⟩ = some (.int .i64 a0_0) ∧ w40.cell? ⟨E1, 1, none⟩ = some (.int .i64 a0_1) ∧ w40.cell? ⟨E1, 2, none⟩ = some (.int .i64 a0_2) ∧ w40.cell? ⟨E1, 3, none⟩ = some (.int .i64 a0_3) ∧ w40.cell? ⟨E1, 4, none⟩ = some (.int .i64 a0_4) ∧ w40.cell? ⟨E1, 5, none⟩ = some (.int .i64 a0_5) := hS_
        refine norm_ (a' := ?_) ?_ ?_
        rotate_left
        ·simp only [putAll, Act.put, sA, sB, sC]
         rfl
        refine one_ (i := 8) (N := some 37) (bs 21 647167) rfl rfl (one_of HT_.out (by kernel_rfl)) (by decide) (fun K hK => ?_)
        refine goesT_ (t := 33) Try.func47 (by kernel_rfl) rfl #[.pointer (some ⟨E5, 0, none⟩)] #[.int .i64 (wrap64 (-a0_1)), .pointer (some ⟨E5, 0, none⟩)] (by rfl) rfl rfl (by first | rfl | (go_simp; done) | (go_simp; rfl)) (by (try simp only [List.map_toArray, List.map_cons, List.map_nil]); first | done | rfl | (go_simp; done) | (go_simp; rfl)) ?_
        with_reducible refine (affine_Inverse_1.calls k (wrap64 (-a0_1)) E5 (wrap64 ((wrap64 (a0_0 * a0_3)) - (wrap64 (a0_1 * a0_2)))) t157 _ ?side1 A17.out).mono ?_
        (case side1 => exact zk0 E4)
        rintro e w41 ⟨rfl, hb⟩
        refine ⟨_, rfl, ?_⟩
        replace E0 := zk E0 hb
        replace E2 := zk E2 hb
        replace E4 := zk E4 hb
        replace E7 := zk E7 hb
        replace HB := zb HB hb
        (try clear hb)
        (try clear hb2)
        (try clear hk)
        (try clear hi)
        refine hK.out _ _ ⟨(blk_cell E0.out 0).trans rfl, (blk_cell E0.out 1).trans rfl, (blk_cell E0.out 2).trans rfl, (blk_cell E0.out 3).trans rfl, (blk_cell E0.out 4).trans rfl, (blk_cell E0.out 5).trans rfl⟩ (fun hHeld => ?_)
        clear hK K
        refine norm_ (a' := ?_) ?_ ?_
        rotate_left
        ·show Act.put _ (some 37) _ = _
         simp only [Act.put, sA, sB, sC, i64_w, i32_w]
         rfl
        exact norm_ (by first | (simp only [putAll, Act.put, sA, sB, sC]; done) | (simp only [putAll, Act.put, sA, sB, sC]; rfl)) (hJ3_8_19 (E3) _ ⟨hHeld, (by exact zk0 E0), (by exact zk0 E2), (by exact zk0 E4), (by exact zk0 E7), G5.out, G4.out, E6.out, G1.out, E9.out, G2.out, G0.out, G3.out, (by exact zb0 HB)⟩)
      ·skip
       rintro _ w40 ⟨hS_, h0_, h1_, h2_, h3_⟩
       have n0_ : Aside0 (w40.heap[E1]? = some (.cells #[.int .i64 a0_0, .int .i64 a0_1, .int .i64 a0_2, .int .i64 a0_3, .int .i64 a0_4, .int .i64 a0_5] 32 (0, 0))) := ⟨h0_⟩
       have n1_ : Aside0 (w40.heap[E8]? = some (.cells #[.int .i64 0, .int .i64 0, .int .i64 0, .int .i64 0, .int .i64 0, .int .i64 0] 32 (0, 0))) := ⟨h1_⟩
       have n2_ : Aside0 (w40.heap[E5]? = some (.cells #[.int .i64 (wrap64 ((wrap64 (a0_0 * a0_3)) - (wrap64 (a0_1 * a0_2))))] 3 (0, 0))) := ⟨h2_⟩
       have n3_ : Aside0 (Below w.heap.size w w40) := ⟨h3_⟩
       clear E0
       clear E2
       clear E4
       clear HB
       clear h0_ h1_ h2_ h3_
       have E0 := n0_
       have E2 := n1_
       have E4 := n2_
       have HB := n3_
       clear n0_ n1_ n2_ n3_
       have hHeld : w40.cell? ⟨E1, 0, none⟩ = some (.int .i64 a0_0) ∧ w40.cell? ⟨E1, 1, none⟩ = some (.int .i64 a0_1) ∧ w40.cell? ⟨E1, 2, none⟩ = some (.int .i64 a0_2) ∧ w40.cell? ⟨E1, 3, none⟩ = some (.int .i64 a0_3) ∧ w40.cell? ⟨E1, 4, none⟩ = some (.int .i64 a0_4) ∧ w40.cell? ⟨E1, 5, none⟩ = some (.int .i64 a0_5) := hS_
       refine norm_ (a' := ?_) ?_ ?_
       rotate_left
       ·simp only [putAll, Act.put, sA, sB, sC]
        rfl
       refine two_ (i := 13) (j := 19) (Ni := some 42) (Nj := some 7) (bs 21 131071) (bs 21 647167) rfl rfl rfl rfl (two_of HT_.out (by kernel_rfl)) (by decide) (by decide) (fun K hK => ?_) (fun K hK => ?_)
       ·skip
        refine goesT_ (t := 38) Try.func47 (by kernel_rfl) rfl #[.pointer (some ⟨E5, 0, none⟩)] #[.int .i64 (wrap64 (-a0_2)), .pointer (some ⟨E5, 0, none⟩)] (by rfl) rfl rfl (by first | rfl | (go_simp; done) | (go_simp; rfl)) (by (try simp only [List.map_toArray, List.map_cons, List.map_nil]); first | done | rfl | (go_simp; done) | (go_simp; rfl)) ?_
        with_reducible refine (affine_Inverse_1.calls k (wrap64 (-a0_2)) E5 (wrap64 ((wrap64 (a0_0 * a0_3)) - (wrap64 (a0_1 * a0_2)))) t158 _ ?side1 A18.out).mono ?_
        (case side1 => exact zk0 E4)
        rintro e w41 ⟨rfl, hb⟩
        refine ⟨_, rfl, ?_⟩
        replace E0 := zk E0 hb
        replace E2 := zk E2 hb
        replace E4 := zk E4 hb
        replace HB := zb HB hb
        (try clear hb)
        (try clear hb2)
        (try clear hk)
        (try clear hi)
        refine hK.out _ _ ⟨(blk_cell E0.out 0).trans rfl, (blk_cell E0.out 1).trans rfl, (blk_cell E0.out 2).trans rfl, (blk_cell E0.out 3).trans rfl, (blk_cell E0.out 4).trans rfl, (blk_cell E0.out 5).trans rfl⟩ (fun hHeld => ?_)
        clear hK K
        refine norm_ (a' := ?_) ?_ ?_
        rotate_left
        ·show Act.put _ (some 42) _ = _
         simp only [Act.put, sA, sB, sC, i64_w, i32_w]
         rfl
        exact norm_ (by first | (simp only [putAll, Act.put, sA, sB, sC]; done) | (simp only [putAll, Act.put, sA, sB, sC]; rfl)) (hJ3_8_13 () _ ⟨hHeld, (by exact zk0 E0), (by exact zk0 E2), (by exact zk0 E4), (by exact zb0 HB)⟩)
       ·skip
        refine box_step ?hg (N := 7) ?hd (cs := #[.int .i64 0, .int .i64 0, .int .i64 0, .int .i64 0, .int .i64 0, .int .i64 0]) (t := 32) ?hr ?_; (case hd => rfl); (case hg => rfl); (case hr => first | (go_simp; done) | (go_simp; rfl))
        intro E3 hg w41 hbox hb
        have G5 := zg HB hg
        have G4 := zg HB hg
        have E6 := zn E0 hg
        have G1 := zn' E0 hg
        have E9 := zn E2 hg
        have G2 := zn' E2 hg
        have G0 := zn E4 hg
        have G3 := zn' E4 hg
        have n0_ := Aside0.mk (hbox)
        replace E0 := zk E0 hb
        replace E2 := zk E2 hb
        replace E4 := zk E4 hb
        replace HB := zb HB hb
        have E7 := n0_
        clear n0_
        clear hb hbox hg
        refine hK.out _ _ ⟨(blk_cell E0.out 0).trans rfl, (blk_cell E0.out 1).trans rfl, (blk_cell E0.out 2).trans rfl, (blk_cell E0.out 3).trans rfl, (blk_cell E0.out 4).trans rfl, (blk_cell E0.out 5).trans rfl⟩ (fun hHeld => ?_)
        clear hK K
        refine norm_ (a' := ?_) ?_ ?_
        rotate_left
        ·show Act.put _ (some 7) _ = _
         simp only [Act.put, sA, sB, sC, i64_w, i32_w]
         rfl
        exact norm_ (by first | (simp only [putAll, Act.put, sA, sB, sC]; done) | (simp only [putAll, Act.put, sA, sB, sC]; rfl)) (hJ3_8_19 (E3) _ ⟨hHeld, (by exact zk0 E0), (by exact zk0 E2), (by exact zk0 E4), (by exact zk0 E7), G5.out, G4.out, E6.out, G1.out, E9.out, G2.out, G0.out, G3.out, (by exact zb0 HB)⟩)
     ·skip
      rintro E3 w41 ⟨hS_, h0_, h1_, h2_, h3_, h4_, h5_, h6_, h7_, h8_, h9_, h10_, h11_, h12_⟩
      have n0_ : Aside0 (w41.heap[E1]? = some (.cells #[.int .i64 a0_0, .int .i64 a0_1, .int .i64 a0_2, .int .i64 a0_3, .int .i64 a0_4, .int .i64 a0_5] 32 (0, 0))) := ⟨h0_⟩
      have n1_ : Aside0 (w41.heap[E8]? = some (.cells #[.int .i64 0, .int .i64 0, .int .i64 0, .int .i64 0, .int .i64 0, .int .i64 0] 32 (0, 0))) := ⟨h1_⟩
      have n2_ : Aside0 (w41.heap[E5]? = some (.cells #[.int .i64 (wrap64 ((wrap64 (a0_0 * a0_3)) - (wrap64 (a0_1 * a0_2))))] 3 (0, 0))) := ⟨h2_⟩
      have n3_ : Aside0 (w41.heap[E3]? = some (.cells #[.int .i64 0, .int .i64 0, .int .i64 0, .int .i64 0, .int .i64 0, .int .i64 0] 32 (0, 0))) := ⟨h3_⟩
      have n4_ : Aside0 (w.heap.size ≤ E3) := ⟨h4_⟩
      have n5_ : Aside0 (w.heap.size ≤ E3) := ⟨h5_⟩
      have n6_ : Aside0 (E1 ≠ E3) := ⟨h6_⟩
      have n7_ : Aside0 (E3 ≠ E1) := ⟨h7_⟩
      have n8_ : Aside0 (E8 ≠ E3) := ⟨h8_⟩
      have n9_ : Aside0 (E3 ≠ E8) := ⟨h9_⟩
      have n10_ : Aside0 (E5 ≠ E3) := ⟨h10_⟩
      have n11_ : Aside0 (E3 ≠ E5) := ⟨h11_⟩
      have n12_ : Aside0 (Below w.heap.size w w41) := ⟨h12_⟩
      clear E0
      clear E2
      clear E4
      clear HB
      clear h0_ h1_ h2_ h3_ h4_ h5_ h6_ h7_ h8_ h9_ h10_ h11_ h12_
      have E0 := n0_
      have E2 := n1_
      have E4 := n2_
      have E7 := n3_
      have G5 := n4_
      have G4 := n5_
      have E6 := n6_
      have G1 := n7_
      have E9 := n8_
      have G2 := n9_
      have G0 := n10_
      have G3 := n11_
      have HB := n12_
      clear n0_ n1_ n2_ n3_ n4_ n5_ n6_ n7_ n8_ n9_ n10_ n11_ n12_
      have hHeld : w41.cell? ⟨E1, 0, none⟩ = some (.int .i64 a0_0) ∧ w41.cell? ⟨E1, 1, none⟩ = some (.int .i64 a0_1) ∧ w41.cell? ⟨E1, 2, none⟩ = some (.int .i64 a0_2) ∧ w41.cell? ⟨E1, 3, none⟩ = some (.int .i64 a0_3) ∧ w41.cell? ⟨E1, 4, none⟩ = some (.int .i64 a0_4) ∧ w41.cell? ⟨E1, 5, none⟩ = some (.int .i64 a0_5) := hS_
      refine norm_ (a' := ?_) ?_ ?_
      rotate_left
      ·simp only [putAll, Act.put, sA, sB, sC]
       rfl
      refine one_ (i := 13) (N := some 42) (bs 21 655359) rfl rfl (one_of HT_.out (by kernel_rfl)) (by decide) (fun K hK => ?_)
      refine goesT_ (t := 38) Try.func47 (by kernel_rfl) rfl #[.pointer (some ⟨E5, 0, none⟩)] #[.int .i64 (wrap64 (-a0_2)), .pointer (some ⟨E5, 0, none⟩)] (by rfl) rfl rfl (by first | rfl | (go_simp; done) | (go_simp; rfl)) (by (try simp only [List.map_toArray, List.map_cons, List.map_nil]); first | done | rfl | (go_simp; done) | (go_simp; rfl)) ?_
      with_reducible refine (affine_Inverse_1.calls k (wrap64 (-a0_2)) E5 (wrap64 ((wrap64 (a0_0 * a0_3)) - (wrap64 (a0_1 * a0_2)))) t158 _ ?side1 A18.out).mono ?_
      (case side1 => exact zk0 E4)
      rintro e w42 ⟨rfl, hb⟩
      refine ⟨_, rfl, ?_⟩
      replace E0 := zk E0 hb
      replace E2 := zk E2 hb
      replace E4 := zk E4 hb
      replace E7 := zk E7 hb
      replace HB := zb HB hb
      (try clear hb)
      (try clear hb2)
      (try clear hk)
      (try clear hi)
      refine hK.out _ _ ⟨(blk_cell E0.out 0).trans rfl, (blk_cell E0.out 1).trans rfl, (blk_cell E0.out 2).trans rfl, (blk_cell E0.out 3).trans rfl, (blk_cell E0.out 4).trans rfl, (blk_cell E0.out 5).trans rfl⟩ (fun hHeld => ?_)
      clear hK K
      refine norm_ (a' := ?_) ?_ ?_
      rotate_left
      ·show Act.put _ (some 42) _ = _
       simp only [Act.put, sA, sB, sC, i64_w, i32_w]
       rfl
      exact norm_ (by first | (simp only [putAll, Act.put, sA, sB, sC]; done) | (simp only [putAll, Act.put, sA, sB, sC]; rfl)) (hJ3_8_13_19 (E3) _ ⟨hHeld, (by exact zk0 E0), (by exact zk0 E2), (by exact zk0 E4), (by exact zk0 E7), G5.out, G4.out, E6.out, G1.out, E9.out, G2.out, G0.out, G3.out, (by exact zb0 HB)⟩)
    ·skip
     rintro _ w41 ⟨hS_, h0_, h1_, h2_, h3_⟩
     have n0_ : Aside0 (w41.heap[E1]? = some (.cells #[.int .i64 a0_0, .int .i64 a0_1, .int .i64 a0_2, .int .i64 a0_3, .int .i64 a0_4, .int .i64 a0_5] 32 (0, 0))) := ⟨h0_⟩
     have n1_ : Aside0 (w41.heap[E8]? = some (.cells #[.int .i64 0, .int .i64 0, .int .i64 0, .int .i64 0, .int .i64 0, .int .i64 0] 32 (0, 0))) := ⟨h1_⟩
     have n2_ : Aside0 (w41.heap[E5]? = some (.cells #[.int .i64 (wrap64 ((wrap64 (a0_0 * a0_3)) - (wrap64 (a0_1 * a0_2))))] 3 (0, 0))) := ⟨h2_⟩
     have n3_ : Aside0 (Below w.heap.size w w41) := ⟨h3_⟩
     clear E0
     clear E2
     clear E4
     clear HB
     clear h0_ h1_ h2_ h3_
     have E0 := n0_
     have E2 := n1_
     have E4 := n2_
     have HB := n3_
     clear n0_ n1_ n2_ n3_
     have hHeld : w41.cell? ⟨E1, 0, none⟩ = some (.int .i64 a0_0) ∧ w41.cell? ⟨E1, 1, none⟩ = some (.int .i64 a0_1) ∧ w41.cell? ⟨E1, 2, none⟩ = some (.int .i64 a0_2) ∧ w41.cell? ⟨E1, 3, none⟩ = some (.int .i64 a0_3) ∧ w41.cell? ⟨E1, 4, none⟩ = some (.int .i64 a0_4) ∧ w41.cell? ⟨E1, 5, none⟩ = some (.int .i64 a0_5) := hS_
     refine norm_ (a' := ?_) ?_ ?_
     rotate_left
     ·simp only [putAll, Act.put, sA, sB, sC]
      rfl
     refine two_ (i := 17) (j := 19) (Ni := some 46) (Nj := some 7) (bs 21 262143) (bs 21 655359) rfl rfl rfl rfl (two_of HT_.out (by kernel_rfl)) (by decide) (by decide) (fun K hK => ?_) (fun K hK => ?_)
     ·skip
      refine goesT_ (t := 43) Try.func47 (by kernel_rfl) rfl #[.pointer (some ⟨E5, 0, none⟩)] #[.int .i64 a0_0, .pointer (some ⟨E5, 0, none⟩)] (by rfl) rfl rfl (by first | rfl | (go_simp; done) | (go_simp; rfl)) (by (try simp only [List.map_toArray, List.map_cons, List.map_nil]); first | done | rfl | (go_simp; done) | (go_simp; rfl)) ?_
      with_reducible refine (affine_Inverse_1.calls k a0_0 E5 (wrap64 ((wrap64 (a0_0 * a0_3)) - (wrap64 (a0_1 * a0_2)))) t159 _ ?side1 A19.out).mono ?_
      (case side1 => exact zk0 E4)
      rintro e w42 ⟨rfl, hb⟩
      refine ⟨_, rfl, ?_⟩
      replace E0 := zk E0 hb
      replace E2 := zk E2 hb
      replace E4 := zk E4 hb
      replace HB := zb HB hb
      (try clear hb)
      (try clear hb2)
      (try clear hk)
      (try clear hi)
      refine hK.out _ _ ⟨(blk_cell E0.out 0).trans rfl, (blk_cell E0.out 1).trans rfl, (blk_cell E0.out 2).trans rfl, (blk_cell E0.out 3).trans rfl, (blk_cell E0.out 4).trans rfl, (blk_cell E0.out 5).trans rfl⟩ (fun hHeld => ?_)
      clear hK K
      refine norm_ (a' := ?_) ?_ ?_
      rotate_left
      ·show Act.put _ (some 46) _ = _
       simp only [Act.put, sA, sB, sC, i64_w, i32_w]
       rfl
      refine pure_ (i := 18) (N := some 47) (v := ?_) (a' := ?_) (bs 21 524287) rfl rfl (any_of HT_.out (by kernel_rfl)) (fun _ _ _ h => h) (Or.inl ⟨by rfl, ?_⟩) ?_ ?_
      rotate_left
      ·intro w'
       go_simp
       with_reducible rfl
      rotate_left
      ·simp only [Act.put, sA, sB, sC, i64_w, i32_w]
       rfl
      exact norm_ (by first | (simp only [putAll, Act.put, sA, sB, sC]; done) | (simp only [putAll, Act.put, sA, sB, sC]; rfl)) (hJ3_8_13_17 () _ ⟨hHeld, (by exact zk0 E0), (by exact zk0 E2), (by exact zk0 E4), (by exact zb0 HB)⟩)
     ·skip
      refine box_step ?hg (N := 7) ?hd (cs := #[.int .i64 0, .int .i64 0, .int .i64 0, .int .i64 0, .int .i64 0, .int .i64 0]) (t := 32) ?hr ?_; (case hd => rfl); (case hg => rfl); (case hr => first | (go_simp; done) | (go_simp; rfl))
      intro E3 hg w42 hbox hb
      have G5 := zg HB hg
      have G4 := zg HB hg
      have E6 := zn E0 hg
      have G1 := zn' E0 hg
      have E9 := zn E2 hg
      have G2 := zn' E2 hg
      have G0 := zn E4 hg
      have G3 := zn' E4 hg
      have n0_ := Aside0.mk (hbox)
      replace E0 := zk E0 hb
      replace E2 := zk E2 hb
      replace E4 := zk E4 hb
      replace HB := zb HB hb
      have E7 := n0_
      clear n0_
      clear hb hbox hg
      refine hK.out _ _ ⟨(blk_cell E0.out 0).trans rfl, (blk_cell E0.out 1).trans rfl, (blk_cell E0.out 2).trans rfl, (blk_cell E0.out 3).trans rfl, (blk_cell E0.out 4).trans rfl, (blk_cell E0.out 5).trans rfl⟩ (fun hHeld => ?_)
      clear hK K
      refine norm_ (a' := ?_) ?_ ?_
      rotate_left
      ·show Act.put _ (some 7) _ = _
       simp only [Act.put, sA, sB, sC, i64_w, i32_w]
       rfl
      exact norm_ (by first | (simp only [putAll, Act.put, sA, sB, sC]; done) | (simp only [putAll, Act.put, sA, sB, sC]; rfl)) (hJ3_8_13_19 (E3) _ ⟨hHeld, (by exact zk0 E0), (by exact zk0 E2), (by exact zk0 E4), (by exact zk0 E7), G5.out, G4.out, E6.out, G1.out, E9.out, G2.out, G0.out, G3.out, (by exact zb0 HB)⟩)
   ·skip
    rintro E3 w42 ⟨hS_, h0_, h1_, h2_, h3_, h4_, h5_, h6_, h7_, h8_, h9_, h10_, h11_, h12_⟩
    have n0_ : Aside0 (w42.heap[E1]? = some (.cells #[.int .i64 a0_0, .int .i64 a0_1, .int .i64 a0_2, .int .i64 a0_3, .int .i64 a0_4, .int .i64 a0_5] 32 (0, 0))) := ⟨h0_⟩
    have n1_ : Aside0 (w42.heap[E8]? = some (.cells #[.int .i64 0, .int .i64 0, .int .i64 0, .int .i64 0, .int .i64 0, .int .i64 0] 32 (0, 0))) := ⟨h1_⟩
    have n2_ : Aside0 (w42.heap[E5]? = some (.cells #[.int .i64 (wrap64 ((wrap64 (a0_0 * a0_3)) - (wrap64 (a0_1 * a0_2))))] 3 (0, 0))) := ⟨h2_⟩
    have n3_ : Aside0 (w42.heap[E3]? = some (.cells #[.int .i64 0, .int .i64 0, .int .i64 0, .int .i64 0, .int .i64 0, .int .i64 0] 32 (0, 0))) := ⟨h3_⟩
    have n4_ : Aside0 (w.heap.size ≤ E3) := ⟨h4_⟩
    have n5_ : Aside0 (w.heap.size ≤ E3) := ⟨h5_⟩
    have n6_ : Aside0 (E1 ≠ E3) := ⟨h6_⟩
    have n7_ : Aside0 (E3 ≠ E1) := ⟨h7_⟩
    have n8_ : Aside0 (E8 ≠ E3) := ⟨h8_⟩
    have n9_ : Aside0 (E3 ≠ E8) := ⟨h9_⟩
    have n10_ : Aside0 (E5 ≠ E3) := ⟨h10_⟩
    have n11_ : Aside0 (E3 ≠ E5) := ⟨h11_⟩
    have n12_ : Aside0 (Below w.heap.size w w42) := ⟨h12_⟩
    clear E0
    clear E2
    clear E4
    clear HB
    clear h0_ h1_ h2_ h3_ h4_ h5_ h6_ h7_ h8_ h9_ h10_ h11_ h12_
    have E0 := n0_
    have E2 := n1_
    have E4 := n2_
    have E7 := n3_
    have G5 := n4_
    have G4 := n5_
    have E6 := n6_
    have G1 := n7_
    have E9 := n8_
    have G2 := n9_
    have G0 := n10_
    have G3 := n11_
    have HB := n12_
    clear n0_ n1_ n2_ n3_ n4_ n5_ n6_ n7_ n8_ n9_ n10_ n11_ n12_
    have hHeld : w42.cell? ⟨E1, 0, none⟩ = some (.int .i64 a0_0) ∧ w42.cell? ⟨E1, 1, none⟩ = some (.int .i64 a0_1) ∧ w42.cell? ⟨E1, 2, none⟩ = some (.int .i64 a0_2) ∧ w42.cell? ⟨E1, 3, none⟩ = some (.int .i64 a0_3) ∧ w42.cell? ⟨E1, 4, none⟩ = some (.int .i64 a0_4) ∧ w42.cell? ⟨E1, 5, none⟩ = some (.int .i64 a0_5) := hS_
    refine norm_ (a' := ?_) ?_ ?_
    rotate_left
    ·simp only [putAll, Act.put, sA, sB, sC]
     rfl
    refine one_ (i := 17) (N := some 46) (bs 21 786431) rfl rfl (one_of HT_.out (by kernel_rfl)) (by decide) (fun K hK => ?_)
    refine goesT_ (t := 43) Try.func47 (by kernel_rfl) rfl #[.pointer (some ⟨E5, 0, none⟩)] #[.int .i64 a0_0, .pointer (some ⟨E5, 0, none⟩)] (by rfl) rfl rfl (by first | rfl | (go_simp; done) | (go_simp; rfl)) (by (try simp only [List.map_toArray, List.map_cons, List.map_nil]); first | done | rfl | (go_simp; done) | (go_simp; rfl)) ?_
    with_reducible refine (affine_Inverse_1.calls k a0_0 E5 (wrap64 ((wrap64 (a0_0 * a0_3)) - (wrap64 (a0_1 * a0_2)))) t159 _ ?side1 A19.out).mono ?_
    (case side1 => exact zk0 E4)
    rintro e w43 ⟨rfl, hb⟩
    refine ⟨_, rfl, ?_⟩
    replace E0 := zk E0 hb
    replace E2 := zk E2 hb
    replace E4 := zk E4 hb
    replace E7 := zk E7 hb
    replace HB := zb HB hb
    (try clear hb)
    (try clear hb2)
    (try clear hk)
    (try clear hi)
    refine hK.out _ _ ⟨(blk_cell E0.out 0).trans rfl, (blk_cell E0.out 1).trans rfl, (blk_cell E0.out 2).trans rfl, (blk_cell E0.out 3).trans rfl, (blk_cell E0.out 4).trans rfl, (blk_cell E0.out 5).trans rfl⟩ (fun hHeld => ?_)
    clear hK K
    refine norm_ (a' := ?_) ?_ ?_
    rotate_left
    ·show Act.put _ (some 46) _ = _
     simp only [Act.put, sA, sB, sC, i64_w, i32_w]
     rfl
    refine pure_ (i := 18) (N := some 47) (v := ?_) (a' := ?_) (bs 21 1048575) rfl rfl (any_of HT_.out (by kernel_rfl)) (fun _ _ _ h => h) (Or.inl ⟨by rfl, ?_⟩) ?_ ?_
    rotate_left
    ·intro w'
     go_simp
     with_reducible rfl
    rotate_left
    ·simp only [Act.put, sA, sB, sC, i64_w, i32_w]
     rfl
    exact norm_ (by first | (simp only [putAll, Act.put, sA, sB, sC]; done) | (simp only [putAll, Act.put, sA, sB, sC]; rfl)) (hJ3_8_13_17_19 (E3) _ ⟨hHeld, (by exact zk0 E0), (by exact zk0 E2), (by exact zk0 E4), (by exact zk0 E7), G5.out, G4.out, E6.out, G1.out, E9.out, G2.out, G0.out, G3.out, (by exact zb0 HB)⟩)
  ·skip
   rintro _ w42 ⟨hS_, h0_, h1_, h2_, h3_⟩
   have n0_ : Aside0 (w42.heap[E1]? = some (.cells #[.int .i64 a0_0, .int .i64 a0_1, .int .i64 a0_2, .int .i64 a0_3, .int .i64 a0_4, .int .i64 a0_5] 32 (0, 0))) := ⟨h0_⟩
   have n1_ : Aside0 (w42.heap[E8]? = some (.cells #[.int .i64 0, .int .i64 0, .int .i64 0, .int .i64 0, .int .i64 0, .int .i64 0] 32 (0, 0))) := ⟨h1_⟩
   have n2_ : Aside0 (w42.heap[E5]? = some (.cells #[.int .i64 (wrap64 ((wrap64 (a0_0 * a0_3)) - (wrap64 (a0_1 * a0_2))))] 3 (0, 0))) := ⟨h2_⟩
   have n3_ : Aside0 (Below w.heap.size w w42) := ⟨h3_⟩
   clear E0
   clear E2
   clear E4
   clear HB
   clear h0_ h1_ h2_ h3_
   have E0 := n0_
   have E2 := n1_
   have E4 := n2_
   have HB := n3_
   clear n0_ n1_ n2_ n3_
   have hHeld : w42.cell? ⟨E1, 0, none⟩ = some (.int .i64 a0_0) ∧ w42.cell? ⟨E1, 1, none⟩ = some (.int .i64 a0_1) ∧ w42.cell? ⟨E1, 2, none⟩ = some (.int .i64 a0_2) ∧ w42.cell? ⟨E1, 3, none⟩ = some (.int .i64 a0_3) ∧ w42.cell? ⟨E1, 4, none⟩ = some (.int .i64 a0_4) ∧ w42.cell? ⟨E1, 5, none⟩ = some (.int .i64 a0_5) := hS_
   refine norm_ (a' := ?_) ?_ ?_
   rotate_left
   ·simp only [putAll, Act.put, sA, sB, sC]
    rfl
   refine one_ (i := 19) (N := some 7) (bs 21 1048575) rfl rfl (one_of HT_.out (by kernel_rfl)) (by decide) (fun K hK => ?_)
   refine box_step ?hg (N := 7) ?hd (cs := #[.int .i64 0, .int .i64 0, .int .i64 0, .int .i64 0, .int .i64 0, .int .i64 0]) (t := 32) ?hr ?_; (case hd => rfl); (case hg => rfl); (case hr => first | (go_simp; done) | (go_simp; rfl))
   intro E3 hg w43 hbox hb
   have G5 := zg HB hg
   have G4 := zg HB hg
   have E6 := zn E0 hg
   have G1 := zn' E0 hg
   have E9 := zn E2 hg
   have G2 := zn' E2 hg
   have G0 := zn E4 hg
   have G3 := zn' E4 hg
   have n0_ := Aside0.mk (hbox)
   replace E0 := zk E0 hb
   replace E2 := zk E2 hb
   replace E4 := zk E4 hb
   replace HB := zb HB hb
   have E7 := n0_
   clear n0_
   clear hb hbox hg
   refine hK.out _ _ ⟨(blk_cell E0.out 0).trans rfl, (blk_cell E0.out 1).trans rfl, (blk_cell E0.out 2).trans rfl, (blk_cell E0.out 3).trans rfl, (blk_cell E0.out 4).trans rfl, (blk_cell E0.out 5).trans rfl⟩ (fun hHeld => ?_)
   clear hK K
   refine norm_ (a' := ?_) ?_ ?_
   rotate_left
   ·show Act.put _ (some 7) _ = _
    simp only [Act.put, sA, sB, sC, i64_w, i32_w]
    rfl
   exact norm_ (by first | (simp only [putAll, Act.put, sA, sB, sC]; done) | (simp only [putAll, Act.put, sA, sB, sC]; rfl)) (hJ3_8_13_17_19 (E3) _ ⟨hHeld, (by exact zk0 E0), (by exact zk0 E2), (by exact zk0 E4), (by exact zk0 E7), G5.out, G4.out, E6.out, G1.out, E9.out, G2.out, G0.out, G3.out, (by exact zb0 HB)⟩)
 rintro E3 w43 ⟨hS_, h0_, h1_, h2_, h3_, h4_, h5_, h6_, h7_, h8_, h9_, h10_, h11_, h12_⟩
 have n0_ : Aside0 (w43.heap[E1]? = some (.cells #[.int .i64 a0_0, .int .i64 a0_1, .int .i64 a0_2, .int .i64 a0_3, .int .i64 a0_4, .int .i64 a0_5] 32 (0, 0))) := ⟨h0_⟩
 have n1_ : Aside0 (w43.heap[E8]? = some (.cells #[.int .i64 0, .int .i64 0, .int .i64 0, .int .i64 0, .int .i64 0, .int .i64 0] 32 (0, 0))) := ⟨h1_⟩
 have n2_ : Aside0 (w43.heap[E5]? = some (.cells #[.int .i64 (wrap64 ((wrap64 (a0_0 * a0_3)) - (wrap64 (a0_1 * a0_2))))] 3 (0, 0))) := ⟨h2_⟩
 have n3_ : Aside0 (w43.heap[E3]? = some (.cells #[.int .i64 0, .int .i64 0, .int .i64 0, .int .i64 0, .int .i64 0, .int .i64 0] 32 (0, 0))) := ⟨h3_⟩
 have n4_ : Aside0 (w.heap.size ≤ E3) := ⟨h4_⟩
 have n5_ : Aside0 (w.heap.size ≤ E3) := ⟨h5_⟩
 have n6_ : Aside0 (E1 ≠ E3) := ⟨h6_⟩
 have n7_ : Aside0 (E3 ≠ E1) := ⟨h7_⟩
 have n8_ : Aside0 (E8 ≠ E3) := ⟨h8_⟩
 have n9_ : Aside0 (E3 ≠ E8) := ⟨h9_⟩
 have n10_ : Aside0 (E5 ≠ E3) := ⟨h10_⟩
 have n11_ : Aside0 (E3 ≠ E5) := ⟨h11_⟩
 have n12_ : Aside0 (Below w.heap.size w w43) := ⟨h12_⟩
 clear E0
 clear E2
 clear E4
 clear HB
 clear h0_ h1_ h2_ h3_ h4_ h5_ h6_ h7_ h8_ h9_ h10_ h11_ h12_
 have E0 := n0_
 have E2 := n1_
 have E4 := n2_
 have E7 := n3_
 have G5 := n4_
 have G4 := n5_
 have E6 := n6_
 have G1 := n7_
 have E9 := n8_
 have G2 := n9_
 have G0 := n10_
 have G3 := n11_
 have HB := n12_
 clear n0_ n1_ n2_ n3_ n4_ n5_ n6_ n7_ n8_ n9_ n10_ n11_ n12_
 have hHeld : w43.cell? ⟨E1, 0, none⟩ = some (.int .i64 a0_0) ∧ w43.cell? ⟨E1, 1, none⟩ = some (.int .i64 a0_1) ∧ w43.cell? ⟨E1, 2, none⟩ = some (.int .i64 a0_2) ∧ w43.cell? ⟨E1, 3, none⟩ = some (.int .i64 a0_3) ∧ w43.cell? ⟨E1, 4, none⟩ = some (.int .i64 a0_4) ∧ w43.cell? ⟨E1, 5, none⟩ = some (.int .i64 a0_5) := hS_
 refine norm_ (a' := ?_) ?_ ?_
 rotate_left
 ·simp only [putAll, Act.put, sA, sB, sC]
  rfl
 refine one_ (i := 20) (N := none) (bs 21 2097151) rfl rfl (one_of HT_.out (by kernel_rfl)) (by decide) (fun K hK => ?_)
 have hs44 : w43.cell? ⟨E3, 0, none⟩ = some (.int .i64 0) := (blk_cell E7.out 0).trans rfl
 have hfs44 := blk_frozen E7.out 0
 have E2c := E6.out
 have E2d := E9.out
 have E2e := G0.out
 have E2f := G1.out
 have E2g := G2.out
 have E2h := G3.out
 have hs45 : w43.cell? ⟨E3, 1, none⟩ = some (.int .i64 0) := (blk_cell E7.out 1).trans rfl
 have hfs45 := blk_frozen E7.out 1
 have E2i := E6.out
 have E2j := E9.out
 have E2k := G0.out
 have E2l := G1.out
 have E2m := G2.out
 have E2n := G3.out
 have hs46 : w43.cell? ⟨E3, 2, none⟩ = some (.int .i64 0) := (blk_cell E7.out 2).trans rfl
 have hfs46 := blk_frozen E7.out 2
 have E2o := E6.out
 have E2p := E9.out
 have E2q := G0.out
 have E2r := G1.out
 have E2s := G2.out
 have E2t := G3.out
 have hs47 : w43.cell? ⟨E3, 3, none⟩ = some (.int .i64 0) := (blk_cell E7.out 3).trans rfl
 have hfs47 := blk_frozen E7.out 3
 have E2u := E6.out
 have E2v := E9.out
 have E2w := G0.out
 have E2x := G1.out
 have E2y := G2.out
 have E2z := G3.out
 have hs48 : w43.cell? ⟨E3, 4, none⟩ = some (.int .i64 0) := (blk_cell E7.out 4).trans rfl
 have hfs48 := blk_frozen E7.out 4
 have E2A := E6.out
 have E2B := E9.out
 have E2C := G0.out
 have E2D := G1.out
 have E2E := G2.out
 have E2F := G3.out
 have hs49 : w43.cell? ⟨E3, 5, none⟩ = some (.int .i64 0) := (blk_cell E7.out 5).trans rfl
 have hfs49 := blk_frozen E7.out 5
 have E2G := E6.out
 have E2H := E9.out
 have E2I := G0.out
 have E2J := G1.out
 have E2K := G2.out
 have E2L := G3.out
 refine skip_ (w1 := ?_) (by rfl) rfl ?_ ?_
 rotate_left
 ·go_simp
  rfl
 refine hK.out _ _ ⟨((cell_far (p := ⟨E3, _, none⟩) E6.out _).trans (((cell_far (p := ⟨E3, _, none⟩) E6.out _).trans (((cell_far (p := ⟨E3, _, none⟩) E6.out _).trans (((cell_far (p := ⟨E3, _, none⟩) E6.out _).trans (((cell_far (p := ⟨E3, _, none⟩) E6.out _).trans (((cell_far (p := ⟨E3, _, none⟩) E6.out _).trans (hHeld.1)))))))))))), ((cell_far (p := ⟨E3, _, none⟩) E6.out _).trans (((cell_far (p := ⟨E3, _, none⟩) E6.out _).trans (((cell_far (p := ⟨E3, _, none⟩) E6.out _).trans (((cell_far (p := ⟨E3, _, none⟩) E6.out _).trans (((cell_far (p := ⟨E3, _, none⟩) E6.out _).trans (((cell_far (p := ⟨E3, _, none⟩) E6.out _).trans (hHeld.2.1)))))))))))), ((cell_far (p := ⟨E3, _, none⟩) E6.out _).trans (((cell_far (p := ⟨E3, _, none⟩) E6.out _).trans (((cell_far (p := ⟨E3, _, none⟩) E6.out _).trans (((cell_far (p := ⟨E3, _, none⟩) E6.out _).trans (((cell_far (p := ⟨E3, _, none⟩) E6.out _).trans (((cell_far (p := ⟨E3, _, none⟩) E6.out _).trans (hHeld.2.2.1)))))))))))), ((cell_far (p := ⟨E3, _, none⟩) E6.out _).trans (((cell_far (p := ⟨E3, _, none⟩) E6.out _).trans (((cell_far (p := ⟨E3, _, none⟩) E6.out _).trans (((cell_far (p := ⟨E3, _, none⟩) E6.out _).trans (((cell_far (p := ⟨E3, _, none⟩) E6.out _).trans (((cell_far (p := ⟨E3, _, none⟩) E6.out _).trans (hHeld.2.2.2.1)))))))))))), ((cell_far (p := ⟨E3, _, none⟩) E6.out _).trans (((cell_far (p := ⟨E3, _, none⟩) E6.out _).trans (((cell_far (p := ⟨E3, _, none⟩) E6.out _).trans (((cell_far (p := ⟨E3, _, none⟩) E6.out _).trans (((cell_far (p := ⟨E3, _, none⟩) E6.out _).trans (((cell_far (p := ⟨E3, _, none⟩) E6.out _).trans (hHeld.2.2.2.2.1)))))))))))), ((cell_far (p := ⟨E3, _, none⟩) E6.out _).trans (((cell_far (p := ⟨E3, _, none⟩) E6.out _).trans (((cell_far (p := ⟨E3, _, none⟩) E6.out _).trans (((cell_far (p := ⟨E3, _, none⟩) E6.out _).trans (((cell_far (p := ⟨E3, _, none⟩) E6.out _).trans (((cell_far (p := ⟨E3, _, none⟩) E6.out _).trans (hHeld.2.2.2.2.2))))))))))))⟩ (fun hHeld => ?_)
 clear hK K
 refine done_ (done_of HT_.out (by kernel_rfl)) ?_
 have H := HX_.out
 clear HX_
 by_cases c21 : t161 = 0
 rotate_left
 ·rw [if_neg c21] at H
  have Y2 : (t161 == 0) = false := beq_eq_false_iff_ne.mpr c21
  have Y3 : (t161 != 0) = true := bne_iff_ne.mpr c21
  simp only [Option.some.injEq, Prod.mk.injEq] at H
  obtain ⟨rfl, rfl, rfl, rfl, rfl, rfl, rfl⟩ := H
  have E2M := G1.out
  have E2N := E6.out
  have E2O := G2.out
  have E2P := E9.out
  have E2Q := G3.out
  have E2R := G0.out
  obtain ⟨E2S, E2T, E2U, E2V, E2W, E2X, E2Y, E2Z, E3a, E3b, E3c, E3d⟩ := zq6 E7
  try go_wp2_with (first | ((with_reducible refine gate_callee (f := 46) rfl ?_); refine goesL_ (some 49) rfl rfl Try.func46 (by kernel_rfl) rfl #[.agg #[.int .i64 t156, .int .i64 t157, .int .i64 t158, .int .i64 t159, .int .i64 0, .int .i64 0]] rfl (by (try simp only [List.map_toArray, List.map_cons, List.map_nil]); first | done | rfl | (simp only [List.length_drop, List.length_take]; rfl)) ?_; (with_reducible refine (affine_Check.calls t156 t157 t158 t159 0 0 t161 _ A20.out).mono ?_); rintro e w121 ⟨rfl, hb⟩; refine ⟨_, rfl, ?_⟩; have n0_ := Aside0.mk (blk_below (g := E3) (o := .cells #[.int .i64 t156, .int .i64 t157, .int .i64 t158, .int .i64 t159, .int .i64 0, .int .i64 0] 32 (0, 0)) (by exact zp E7 rfl) hb); have n1_ := Aside0.mk (below_step (by exact zbo HB G4) hb); replace E0 := zfk E0 E6 hb; replace E2 := zfk E2 E9 hb; replace E4 := zfk E4 G0 hb; clear E7; clear HB; have E7 := n0_; have HB := n1_; clear n0_ n1_; (try clear hb); obtain ⟨E3e, E3f, E3g, E3h, E3i, E3j, E3k, E3l, E3m, E3n, E3o, E3p⟩ := zq6 E2))
  refine bodyPost_ret (results_ct rfl _ _ E8 32 #[.int .i64 0, .int .i64 0, .int .i64 0, .int .i64 0, .int .i64 0, .int .i64 0] (0, 0) _ rfl (by exact zp E2 rfl) Try.underlying32 rfl (by kernel_rfl)) rfl ?_
  exact ⟨by first | rfl | (simp [errW_none, errW_some] <;> rfl) | (simp [*, errW_none, errW_some] <;> rfl), by exact zbo HB G6⟩
 rw [if_pos c21] at H
 have Y2 : (t161 == 0) = true := beq_iff_eq.mpr c21
 have Y3 : (t161 != 0) = false := bne_eq_false_iff_eq.mpr c21
 clear c21
 replace H := Option.bind_eq_some_iff.mp H
 obtain ⟨t162, A220, H⟩ := H
 try dsimp only at H
 have A22 := Aside0.mk A220
 clear A220
 replace H := Option.bind_eq_some_iff.mp H
 obtain ⟨t163, A230, H⟩ := H
 try dsimp only at H
 have A23 := Aside0.mk A230
 clear A230
 replace H := Option.bind_eq_some_iff.mp H
 obtain ⟨t164, A240, H⟩ := H
 try dsimp only at H
 have A24 := Aside0.mk A240
 clear A240
 by_cases c25 : t164 = 0
 ·rw [if_pos c25] at H
  have Y4 : (t164 == 0) = true := beq_iff_eq.mpr c25
  have Y5 : (t164 != 0) = false := bne_eq_false_iff_eq.mpr c25
  clear c25
  simp only [Option.some.injEq, Prod.mk.injEq] at H
  obtain ⟨rfl, rfl, rfl, rfl, rfl, rfl, rfl⟩ := H
  have E3q := G1.out
  have E3r := E6.out
  have E3s := G2.out
  have E3t := E9.out
  have E3u := G3.out
  have E3v := G0.out
  obtain ⟨E3w, E3x, E3y, E3z, E3A, E3B, E3C, E3D, E3E, E3F, E3G, E3H⟩ := zq6 E7
  try go_wp2_with (first | ((with_reducible refine gate_callee (f := 46) rfl ?_); refine goesL_ (some 49) rfl rfl Try.func46 (by kernel_rfl) rfl #[.agg #[.int .i64 t156, .int .i64 t157, .int .i64 t158, .int .i64 t159, .int .i64 0, .int .i64 0]] rfl (by (try simp only [List.map_toArray, List.map_cons, List.map_nil]); first | done | rfl | (simp only [List.length_drop, List.length_take]; rfl)) ?_; (with_reducible refine (affine_Check.calls t156 t157 t158 t159 0 0 t161 _ A20.out).mono ?_); rintro e w54 ⟨rfl, hb⟩; refine ⟨_, rfl, ?_⟩; have n0_ := Aside0.mk (blk_below (g := E3) (o := .cells #[.int .i64 t156, .int .i64 t157, .int .i64 t158, .int .i64 t159, .int .i64 0, .int .i64 0] 32 (0, 0)) (by exact zp E7 rfl) hb); have n1_ := Aside0.mk (below_step (by exact zbo HB G4) hb); replace E0 := zfk E0 E6 hb; replace E2 := zfk E2 E9 hb; replace E4 := zfk E4 G0 hb; clear E7; clear HB; have E7 := n0_; have HB := n1_; clear n0_ n1_; (try clear hb); obtain ⟨Y6, Y7, Y8, Y9, Z0, Z1, Z2, Z3, Z4, Z5, Z6, Z7⟩ := zq6 E7; obtain ⟨Z8, Z9, J0, J1, J2, J3, J4, J5, J6, J7, J8, J9⟩ := zq6 E0) | ((with_reducible refine gate_callee (f := 48) rfl ?_); refine goesL_ (some 62) rfl rfl Try.func48 (by kernel_rfl) rfl #[.int .i64 (wrap64 (-t156)), .int .i64 (wrap64 (-t158)), .int .i64 a0_4, .int .i64 a0_5] rfl (by (try simp only [List.map_toArray, List.map_cons, List.map_nil]); first | done | rfl | (simp only [List.length_drop, List.length_take]; rfl)) ?_; (with_reducible refine (affine_dot.calls k (wrap64 (-t156)) (wrap64 (-t158)) a0_4 a0_5 t162 _ A22.out).mono ?_); rintro e w' ⟨rfl, ⟨nd, rfl⟩⟩; refine ⟨_, rfl, ?_⟩; (try (rw [drewN_self w54]; generalize hq_ : World.drewN w54 _ = w54; have n0_ : Aside0 (w54.heap[E1]? = some (.cells #[.int .i64 a0_0, .int .i64 a0_1, .int .i64 a0_2, .int .i64 a0_3, .int .i64 a0_4, .int .i64 a0_5] 32 (0, 0))) := ⟨by rw [← hq_]; exact (by exact zk0 E0)⟩; have n1_ : Aside0 (w54.heap[E8]? = some (.cells #[.int .i64 0, .int .i64 0, .int .i64 0, .int .i64 0, .int .i64 0, .int .i64 0] 32 (0, 0))) := ⟨by rw [← hq_]; exact (by exact zk0 E2)⟩; have n2_ : Aside0 (w54.heap[E5]? = some (.cells #[.int .i64 (wrap64 ((wrap64 (a0_0 * a0_3)) - (wrap64 (a0_1 * a0_2))))] 3 (0, 0))) := ⟨by rw [← hq_]; exact (by exact zk0 E4)⟩; have n3_ : Aside0 (w54.heap[E3]? = some (.cells #[.int .i64 t156, .int .i64 t157, .int .i64 t158, .int .i64 t159, .int .i64 0, .int .i64 0] 32 (0, 0))) := ⟨by rw [← hq_]; exact (by exact zk0 E7)⟩; have n4_ : Aside0 (Below w.heap.size w w54) := ⟨by rw [← hq_]; exact (by exact zb0 HB)⟩; clear E0 E2 E4 E7 HB hq_; have E0 := n0_; have E2 := n1_; have E4 := n2_; have E7 := n3_; have HB := n4_; clear n0_ n1_ n2_ n3_ n4_)); obtain ⟨Y6, Y7, Y8, Y9, Z0, Z1, Z2, Z3, Z4, Z5, Z6, Z7⟩ := zq6 E7; obtain ⟨Z8, Z9, J0, J1, J2, J3, J4, J5, J6, J7, J8, J9⟩ := zq6 E0) | ((with_reducible refine gate_callee (f := 48) rfl ?_); refine goesL_ (some 74) rfl rfl Try.func48 (by kernel_rfl) rfl #[.int .i64 (wrap64 (-t157)), .int .i64 (wrap64 (-t159)), .int .i64 a0_4, .int .i64 a0_5] rfl (by (try simp only [List.map_toArray, List.map_cons, List.map_nil]); first | done | rfl | (simp only [List.length_drop, List.length_take]; rfl)) ?_; (with_reducible refine (affine_dot.calls k (wrap64 (-t157)) (wrap64 (-t159)) a0_4 a0_5 t163 _ A23.out).mono ?_); rintro e w' ⟨rfl, ⟨nd, rfl⟩⟩; refine ⟨_, rfl, ?_⟩) | ((with_reducible refine gate_callee (f := 46) rfl ?_); refine goesL_ (some 77) rfl rfl Try.func46 (by kernel_rfl) rfl #[.agg #[.int .i64 t156, .int .i64 t157, .int .i64 t158, .int .i64 t159, .int .i64 t162, .int .i64 t163]] rfl (by (try simp only [List.map_toArray, List.map_cons, List.map_nil]); first | done | rfl | (simp only [List.length_drop, List.length_take]; rfl)) ?_; (with_reducible refine (affine_Check.calls t156 t157 t158 t159 t162 t163 t164 _ A24.out).mono ?_); rintro e w57 ⟨rfl, hb⟩; refine ⟨_, rfl, ?_⟩; have n0_ := Aside0.mk (blk_below (g := E3) (o := .cells #[.int .i64 t156, .int .i64 t157, .int .i64 t158, .int .i64 t159, .int .i64 t162, .int .i64 t163] 32 (0, 0)) (by exact zp E7 rfl) hb); have n1_ := Aside0.mk (below_step (by exact zbo HB G4) hb); replace E0 := zfk E0 E6 hb; replace E2 := zfk E2 E9 hb; replace E4 := zfk E4 G0 hb; clear E7; clear HB; have E7 := n0_; have HB := n1_; clear n0_ n1_; (try clear hb); obtain ⟨E3I, E3J, E3K, E3L, E3M, E3N, E3O, E3P, E3Q, E3R, E3S, E3T⟩ := zq6 E7; obtain ⟨E3U, E3V, E3W, E3X, E3Y, E3Z, E4a, E4b, E4c, E4d, E4e, E4f⟩ := zq6 E2))
  refine bodyPost_ret (results_ct rfl _ _ E8 32 #[.int .i64 t156, .int .i64 t157, .int .i64 t158, .int .i64 t159, .int .i64 t162, .int .i64 t163] (0, 0) _ rfl (by exact zp E2 rfl) Try.underlying32 rfl (by kernel_rfl)) rfl ?_
  exact ⟨by first | rfl | (simp [errW_none, errW_some] <;> rfl) | (simp [*, errW_none, errW_some] <;> rfl), by exact zbo HB G6⟩
 rw [if_neg c25] at H
 have Y4 : (t164 == 0) = false := beq_eq_false_iff_ne.mpr c25
 have Y5 : (t164 != 0) = true := bne_iff_ne.mpr c25
 simp only [Option.some.injEq, Prod.mk.injEq] at H
 obtain ⟨rfl, rfl, rfl, rfl, rfl, rfl, rfl⟩ := H
 have E4g := G1.out
 have E4h := E6.out
 have E4i := G2.out
 have E4j := E9.out
 have E4k := G3.out
 have E4l := G0.out
 obtain ⟨E4m, E4n, E4o, E4p, E4q, E4r, E4s, E4t, E4u, E4v, E4w, E4x⟩ := zq6 E7
 try go_wp2_with (first | ((with_reducible refine gate_callee (f := 46) rfl ?_); refine goesL_ (some 49) rfl rfl Try.func46 (by kernel_rfl) rfl #[.agg #[.int .i64 t156, .int .i64 t157, .int .i64 t158, .int .i64 t159, .int .i64 0, .int .i64 0]] rfl (by (try simp only [List.map_toArray, List.map_cons, List.map_nil]); first | done | rfl | (simp only [List.length_drop, List.length_take]; rfl)) ?_; (with_reducible refine (affine_Check.calls t156 t157 t158 t159 0 0 t161 _ A20.out).mono ?_); rintro e w88 ⟨rfl, hb⟩; refine ⟨_, rfl, ?_⟩; have n0_ := Aside0.mk (blk_below (g := E3) (o := .cells #[.int .i64 t156, .int .i64 t157, .int .i64 t158, .int .i64 t159, .int .i64 0, .int .i64 0] 32 (0, 0)) (by exact zp E7 rfl) hb); have n1_ := Aside0.mk (below_step (by exact zbo HB G4) hb); replace E0 := zfk E0 E6 hb; replace E2 := zfk E2 E9 hb; replace E4 := zfk E4 G0 hb; clear E7; clear HB; have E7 := n0_; have HB := n1_; clear n0_ n1_; (try clear hb); obtain ⟨L0, L1, L2, L3, L4, L5, L6, L7, L8, L9, Q0, Q1⟩ := zq6 E7; obtain ⟨Q2, Q3, Q4, Q5, Q6, Q7, Q8, Q9, E0a, E0b, E0c, E0d⟩ := zq6 E0) | ((with_reducible refine gate_callee (f := 48) rfl ?_); refine goesL_ (some 62) rfl rfl Try.func48 (by kernel_rfl) rfl #[.int .i64 (wrap64 (-t156)), .int .i64 (wrap64 (-t158)), .int .i64 a0_4, .int .i64 a0_5] rfl (by (try simp only [List.map_toArray, List.map_cons, List.map_nil]); first | done | rfl | (simp only [List.length_drop, List.length_take]; rfl)) ?_; (with_reducible refine (affine_dot.calls k (wrap64 (-t156)) (wrap64 (-t158)) a0_4 a0_5 t162 _ A22.out).mono ?_); rintro e w' ⟨rfl, ⟨nd, rfl⟩⟩; refine ⟨_, rfl, ?_⟩; (try (rw [drewN_self w88]; generalize hq_ : World.drewN w88 _ = w88; have n0_ : Aside0 (w88.heap[E1]? = some (.cells #[.int .i64 a0_0, .int .i64 a0_1, .int .i64 a0_2, .int .i64 a0_3, .int .i64 a0_4, .int .i64 a0_5] 32 (0, 0))) := ⟨by rw [← hq_]; exact (by exact zk0 E0)⟩; have n1_ : Aside0 (w88.heap[E8]? = some (.cells #[.int .i64 0, .int .i64 0, .int .i64 0, .int .i64 0, .int .i64 0, .int .i64 0] 32 (0, 0))) := ⟨by rw [← hq_]; exact (by exact zk0 E2)⟩; have n2_ : Aside0 (w88.heap[E5]? = some (.cells #[.int .i64 (wrap64 ((wrap64 (a0_0 * a0_3)) - (wrap64 (a0_1 * a0_2))))] 3 (0, 0))) := ⟨by rw [← hq_]; exact (by exact zk0 E4)⟩; have n3_ : Aside0 (w88.heap[E3]? = some (.cells #[.int .i64 t156, .int .i64 t157, .int .i64 t158, .int .i64 t159, .int .i64 0, .int .i64 0] 32 (0, 0))) := ⟨by rw [← hq_]; exact (by exact zk0 E7)⟩; have n4_ : Aside0 (Below w.heap.size w w88) := ⟨by rw [← hq_]; exact (by exact zb0 HB)⟩; clear E0 E2 E4 E7 HB hq_; have E0 := n0_; have E2 := n1_; have E4 := n2_; have E7 := n3_; have HB := n4_; clear n0_ n1_ n2_ n3_ n4_)); obtain ⟨L0, L1, L2, L3, L4, L5, L6, L7, L8, L9, Q0, Q1⟩ := zq6 E7; obtain ⟨Q2, Q3, Q4, Q5, Q6, Q7, Q8, Q9, E0a, E0b, E0c, E0d⟩ := zq6 E0) | ((with_reducible refine gate_callee (f := 48) rfl ?_); refine goesL_ (some 74) rfl rfl Try.func48 (by kernel_rfl) rfl #[.int .i64 (wrap64 (-t157)), .int .i64 (wrap64 (-t159)), .int .i64 a0_4, .int .i64 a0_5] rfl (by (try simp only [List.map_toArray, List.map_cons, List.map_nil]); first | done | rfl | (simp only [List.length_drop, List.length_take]; rfl)) ?_; (with_reducible refine (affine_dot.calls k (wrap64 (-t157)) (wrap64 (-t159)) a0_4 a0_5 t163 _ A23.out).mono ?_); rintro e w' ⟨rfl, ⟨nd, rfl⟩⟩; refine ⟨_, rfl, ?_⟩) | ((with_reducible refine gate_callee (f := 46) rfl ?_); refine goesL_ (some 77) rfl rfl Try.func46 (by kernel_rfl) rfl #[.agg #[.int .i64 t156, .int .i64 t157, .int .i64 t158, .int .i64 t159, .int .i64 t162, .int .i64 t163]] rfl (by (try simp only [List.map_toArray, List.map_cons, List.map_nil]); first | done | rfl | (simp only [List.length_drop, List.length_take]; rfl)) ?_; (with_reducible refine (affine_Check.calls t156 t157 t158 t159 t162 t163 t164 _ A24.out).mono ?_); rintro e w91 ⟨rfl, hb⟩; refine ⟨_, rfl, ?_⟩; have n0_ := Aside0.mk (blk_below (g := E3) (o := .cells #[.int .i64 t156, .int .i64 t157, .int .i64 t158, .int .i64 t159, .int .i64 t162, .int .i64 t163] 32 (0, 0)) (by exact zp E7 rfl) hb); have n1_ := Aside0.mk (below_step (by exact zbo HB G4) hb); replace E0 := zfk E0 E6 hb; replace E2 := zfk E2 E9 hb; replace E4 := zfk E4 G0 hb; clear E7; clear HB; have E7 := n0_; have HB := n1_; clear n0_ n1_; (try clear hb); obtain ⟨E4y, E4z, E4A, E4B, E4C, E4D, E4E, E4F, E4G, E4H, E4I, E4J⟩ := zq6 E2))
 refine bodyPost_ret (results_ct rfl _ _ E8 32 #[.int .i64 0, .int .i64 0, .int .i64 0, .int .i64 0, .int .i64 0, .int .i64 0] (0, 0) _ rfl (by exact zp E2 rfl) Try.underlying32 rfl (by kernel_rfl)) rfl ?_
 exact ⟨by first | rfl | (simp [errW_none, errW_some] <;> rfl) | (simp [*, errW_none, errW_some] <;> rfl), by exact zbo HB G6⟩
end Go.Proofs.Ytapdifpmijgkcaa.G
