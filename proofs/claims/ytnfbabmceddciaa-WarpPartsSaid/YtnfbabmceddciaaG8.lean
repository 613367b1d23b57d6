/- Contracts of functions of the program, each as it is called: what it computes (.f), that it computes no less with more rounds (.mono), and that a call returns just that (.calls). No conditions but those that each contract names. Written by a program of this session (wip/gx.py over the kit's print). -/
import Derived.Test.YtnfbabmceddciaaG0
import Derived.Test.YtnfbabmceddciaaG1
import Derived.Test.YtnfbabmceddciaaG4
namespace Go.Proofs.Ytnfbabmceddciaa.G
open Go.RowKit Go.Proofs.YtnfbabmceddciaaW.PrintWords Go.Proofs.YtnfbabmceddciaaW.PrintLast Go.Proofs.YtnfbabmceddciaaW.PrintMore
attribute [local go_sem] max2_int min2_int max_two min_two max_three min_three max_four min_four max_five min_five   -- for this text's walks alone
set_option linter.unusedVariables false
set_option linter.unusedSimpArgs false


/-! ### rect_Grow: function 38 -/
def rect_Grow.j0 : Nat → Int → Bool → Int → Int → Int → Int → Option (Int × Int × Int × Int)
 | 0, _, _, _, _, _, _ => none
 | k + 1, x1, x24, x220000, x220001, x220002, x220003 => if x24 = true then (some (0, 0, 0, 0)) else ((rect_world.f).bind fun bt223 => ((rect_meet.f (wrap64 (x220000 - x1)) (wrap64 (x220001 - x1)) (wrap64 (x220002 + (wrap64 (2 * x1)))) (wrap64 (x220003 + (wrap64 (2 * x1)))) bt223.1 bt223.2.1 bt223.2.2.1 bt223.2.2.2).bind fun bt227 => (some (bt227.1, bt227.2.1, bt227.2.2.1, bt227.2.2.2))))
def rect_Grow.f (k : Nat) (a0_0 : Int) (a0_1 : Int) (a0_2 : Int) (a0_3 : Int) (a1 : Int) : Option (Int × Int × Int × Int) := (rect_limit.f a1).bind fun t221 => ((rect_Empty.f a0_0 a0_1 a0_2 a0_3).bind fun t222 => (if t222 = true then (rect_Grow.j0 k t221 true a0_0 a0_1 a0_2 a0_3) else (if (wrap64 (a0_2 + (wrap64 (2 * t221)))) ≤ 0 then (rect_Grow.j0 k t221 true a0_0 a0_1 a0_2 a0_3) else (rect_Grow.j0 k t221 (decide ((wrap64 (a0_3 + (wrap64 (2 * t221)))) ≤ 0)) a0_0 a0_1 a0_2 a0_3))))
theorem rect_Grow.mono_l : ∀ k, (∀ y0 y1 y2 y3 y4 y5, LeO (rect_Grow.j0 k y0 y1 y2 y3 y4 y5) (rect_Grow.j0 (k + 1) y0 y1 y2 y3 y4 y5))
 | 0 => fun _ _ _ _ _ _ r h => by simp [rect_Grow.j0] at h
 | k + 1 => by
  have ih0 := rect_Grow.mono_l k
  ·intro y0 y1 y2 y3 y4 y5
   unfold rect_Grow.j0
   repeat' first
   | (with_reducible exact ih0 _ _ _ _ _ _)
   | (with_reducible exact LeO.refl _)
   | (with_reducible exact LeO.none _)
   | (with_reducible refine LeO.ite ?_ ?_)
   | (with_reducible refine LeO.bind ?_ (fun _ => ?_))
   | exact ih0 _ _ _ _ _ _
   | exact LeO.none _
   | refine LeO.ite ?_ ?_
   | refine LeO.bind ?_ (fun _ => ?_)
theorem rect_Grow.mono : ∀ a0 a1 a2 a3 a4 k, LeO (rect_Grow.f k a0 a1 a2 a3 a4) (rect_Grow.f (k + 1) a0 a1 a2 a3 a4) := by
 intro a0 a1 a2 a3 a4 k
 have ih0 := rect_Grow.mono_l k
 unfold rect_Grow.f
 repeat' first
   | (with_reducible exact ih0 _ _ _ _ _ _)
   | (with_reducible exact LeO.refl _)
   | (with_reducible exact LeO.none _)
   | (with_reducible refine LeO.ite ?_ ?_)
   | (with_reducible refine LeO.bind ?_ (fun _ => ?_))
   | exact ih0 _ _ _ _ _ _
   | exact LeO.none _
   | refine LeO.ite ?_ ?_
   | refine LeO.bind ?_ (fun _ => ?_)
def rect_Grow.T4 : Bool × List (List Nat × List Nat) := (true, [([], []), ([0], [0]), ([], []), ([1, 2], [1, 2]), ([], []), ([4], [4]), ([], []), ([5, 6], [5, 6]), ([], []), ([8], [8]), ([], []), ([10], [10]), ([9, 11], [9, 11]), ([], []), ([13], [13]), ([], []), ([15], [15]), ([14, 16], [14, 16]), ([3, 7, 12, 17], [3, 7, 12, 17]), ([], []), ([18, 19, 19], [18, 19]), ([20, 20, 0, 1, 2, 3, 4, 5, 6, 7, 8, 9, 10, 11, 12, 13, 14, 15, 16, 17, 18, 19, 20], [20])])
def rect_Grow.B4 : List Nat := [0, 1, 0, 7, 0, 16, 0, 112, 0, 256, 0, 1024, 3840, 0, 8192, 0, 32768, 122880, 262143, 0, 1048575, 2097151]
theorem rect_Grow.tab4 : rtab .any (opsOf Try.f38 4) = rect_Grow.T4 := by kernel_rfl
theorem rect_Grow.bits4 : waitsOk rect_Grow.T4.2 rect_Grow.B4 = true := by kernel_rfl
set_option maxHeartbeats 8000000 in
set_option maxRecDepth 100000 in
theorem rect_Grow.calls (k : Nat) (a0_0 : Int) (a0_1 : Int) (a0_2 : Int) (a0_3 : Int) (a1 : Int) (r1 : Int) (r2 : Int) (r3 : Int) (r4 : Int) (w : World) (h : rect_Grow.f k a0_0 a0_1 a0_2 a0_3 a1 = some (r1, r2, r3, r4)) :
  Calls Try.prog 38 #[.agg #[.int .i64 a0_0, .int .i64 a0_1, .int .i64 a0_2, .int .i64 a0_3], .int .i64 a1] w fun e w' => e = .returned (.agg #[.int .i64 r1, .int .i64 r2, .int .i64 r3, .int .i64 r4]) ∧ Below w.heap.size w w' := by
 have hu34 := Try.underlying34
 have HB := Aside0.mk (Below.refl w.heap.size w)
 have H : ((rect_limit.f a1).bind fun t221 => ((rect_Empty.f a0_0 a0_1 a0_2 a0_3).bind fun t222 => (if t222 = true then (rect_Grow.j0 k t221 true a0_0 a0_1 a0_2 a0_3) else (if (wrap64 (a0_2 + (wrap64 (2 * t221)))) ≤ 0 then (rect_Grow.j0 k t221 true a0_0 a0_1 a0_2 a0_3) else (rect_Grow.j0 k t221 (decide ((wrap64 (a0_3 + (wrap64 (2 * t221)))) ≤ 0)) a0_0 a0_1 a0_2 a0_3))))) = some (r1, r2, r3, r4) := h
 clear h
 replace H := Option.bind_eq_some_iff.mp H
 obtain ⟨t221, A30, H⟩ := H
 replace H : ((rect_Empty.f a0_0 a0_1 a0_2 a0_3).bind fun t222 => (if t222 = true then (rect_Grow.j0 k t221 true a0_0 a0_1 a0_2 a0_3) else (if (wrap64 (a0_2 + (wrap64 (2 * t221)))) ≤ 0 then (rect_Grow.j0 k t221 true a0_0 a0_1 a0_2 a0_3) else (rect_Grow.j0 k t221 (decide ((wrap64 (a0_3 + (wrap64 (2 * t221)))) ≤ 0)) a0_0 a0_1 a0_2 a0_3)))) = some (r1, r2, r3, r4) := H
 have A3 := Aside0.mk A30
 clear A30
 have HC4 := Aside0.mk H
 clear H
 go_enter Try.func38, Try.ntmps38
 go_upto_region 2 with (first | ((with_reducible refine gate_dst (N := 2) rfl ?_); refine box_event ?hg (N := 2) ?hd (cs := #[.int .i64 a0_0, .int .i64 a0_1, .int .i64 a0_2, .int .i64 a0_3]) (t := 34) ?hr ?_; (case hd => rfl); (case hg => rfl); (case hr => first | (go_simp; done) | (go_simp; rfl)); intro gb219 hg w5 hbox hb; have GW219 := zg HB hg; have GE219 := zg HB hg; have n0_ := Aside0.mk (hbox); replace HB := zb HB hb; have BK219 := n0_; clear n0_; clear hb hbox hg) | ((with_reducible refine gate_dst (N := 4) rfl ?_); refine box_event ?hg (N := 4) ?hd (cs := #[.int .i64 0, .int .i64 0, .int .i64 0, .int .i64 0]) (t := 34) ?hr ?_; (case hd => rfl); (case hg => rfl); (case hr => first | (go_simp; done) | (go_simp; rfl)); intro gb220 hg w6 hbox hb; have GW220 := zg HB hg; have GE220 := zg HB hg; have NB219_220 := zn BK219 hg; have NB220_219 := zn' BK219 hg; have n0_ := Aside0.mk (hbox); replace BK219 := zk BK219 hb; replace HB := zb HB hb; have BK220 := n0_; clear n0_; clear hb hbox hg) | ((with_reducible refine gate_callee (f := 71) rfl ?_); refine goesL_ (some 6) rfl rfl Try.func71 (by kernel_rfl) rfl #[.int .i64 a1] rfl (by (try simp only [List.map_toArray, List.map_cons, List.map_nil]); first | done | rfl | (simp only [List.length_drop, List.length_take]; rfl)) ?_; (with_reducible refine (rect_limit.calls a1 t221 _ A3.out).mono ?_); rintro e w7 ⟨rfl, hb⟩; refine ⟨_, rfl, ?_⟩; replace BK219 := zk BK219 hb; replace BK220 := zk BK220 hb; replace HB := zb HB hb; (try clear hb); (try clear hb2); (try clear hk); (try clear hi)))
 (try simp only [Act.put, sA, sB, sC])
 go_cut [24] (fun v24 wc => ∃ (kq : Nat) (x24_3 : Bool), v24 = .bool x24_3 ∧ Aside0 (rect_Grow.j0 kq t221 x24_3 a0_0 a0_1 a0_2 a0_3 = some (r1, r2, r3, r4)) ∧ Aside0 (kq ≤ k) ∧ Aside0 (wc.heap[gb219]? = some (.cells #[.int .i64 a0_0, .int .i64 a0_1, .int .i64 a0_2, .int .i64 a0_3] 34 (0, 0))) ∧ Aside0 (wc.heap[gb220]? = some (.cells #[.int .i64 0, .int .i64 0, .int .i64 0, .int .i64 0] 34 (0, 0))) ∧ Aside0 (Below w.heap.size w wc))
 case first =>
  have H := HC4.out
  clear HC4
  replace H := Option.bind_eq_some_iff.mp H
  obtain ⟨t222, A80, H⟩ := H
  replace H : (if t222 = true then (rect_Grow.j0 k t221 true a0_0 a0_1 a0_2 a0_3) else (if (wrap64 (a0_2 + (wrap64 (2 * t221)))) ≤ 0 then (rect_Grow.j0 k t221 true a0_0 a0_1 a0_2 a0_3) else (rect_Grow.j0 k t221 (decide ((wrap64 (a0_3 + (wrap64 (2 * t221)))) ≤ 0)) a0_0 a0_1 a0_2 a0_3))) = some (r1, r2, r3, r4) := H
  have A8 := Aside0.mk A80
  clear A80
  by_cases c9 : t222 = true
  ·subst c9
   have H1 : (rect_Grow.j0 k t221 true a0_0 a0_1 a0_2 a0_3) = some (r1, r2, r3, r4) := by rw [if_pos rfl] at H; exact H
   clear H
   have H := H1
   clear H1
   have H' := Aside0.mk H
   clear H
   obtain ⟨hcz10_0, hcz10_1, hcz10_2, hcz10_3, hfz10_0, hfz10_1, hfz10_2, hfz10_3⟩ := zq4 BK219
   go_wp2_with (first | ((with_reducible refine gate_callee (f := 36) rfl ?_); refine goesL_ (some 8) rfl rfl Try.func36 (by kernel_rfl) rfl #[.agg #[.int .i64 a0_0, .int .i64 a0_1, .int .i64 a0_2, .int .i64 a0_3]] rfl (by (try simp only [List.map_toArray, List.map_cons, List.map_nil]); first | done | rfl | (simp only [List.length_drop, List.length_take]; rfl)) ?_; (with_reducible refine (rect_Empty.calls a0_0 a0_1 a0_2 a0_3 true _ A8.out).mono ?_); rintro e w11 ⟨rfl, hb⟩; refine ⟨_, rfl, ?_⟩; replace BK219 := zk BK219 hb; replace BK220 := zk BK220 hb; replace HB := zb HB hb; (try clear hb); (try clear hb2); (try clear hk); (try clear hi)))
   go_meet
   case rel => exact ⟨_, (true), (by first | rfl | (simp; done) | (simp [*]; done)), H', ⟨by first | omega | exact Nat.le_refl _⟩, ⟨by exact zk0 BK219⟩, ⟨by exact zk0 BK220⟩, ⟨by exact zb0 HB⟩⟩
  ·replace c9 := Bool.eq_false_iff.mpr c9
   subst c9
   have H1 : (if (wrap64 (a0_2 + (wrap64 (2 * t221)))) ≤ 0 then (rect_Grow.j0 k t221 true a0_0 a0_1 a0_2 a0_3) else (rect_Grow.j0 k t221 (decide ((wrap64 (a0_3 + (wrap64 (2 * t221)))) ≤ 0)) a0_0 a0_1 a0_2 a0_3)) = some (r1, r2, r3, r4) := by rw [if_neg (show ¬ (false = true) by decide)] at H; exact H
   clear H
   have H := H1
   clear H1
   by_cases c12 : (wrap64 (a0_2 + (wrap64 (2 * t221)))) ≤ 0
   ·rw [if_pos c12] at H
    have c12b0 : decide ((wrap64 (a0_2 + (wrap64 (2 * t221)))) ≤ 0) = true := decide_eq_true c12
    clear c12
    (first | rw [c12b0] | (simp only [i64_w, i32_w]; rw [c12b0]) | skip)
    have H' := Aside0.mk H
    clear H
    obtain ⟨hcz13_0, hcz13_1, hcz13_2, hcz13_3, hfz13_0, hfz13_1, hfz13_2, hfz13_3⟩ := zq4 BK219
    go_wp2_with (first | ((with_reducible refine gate_callee (f := 36) rfl ?_); refine goesL_ (some 8) rfl rfl Try.func36 (by kernel_rfl) rfl #[.agg #[.int .i64 a0_0, .int .i64 a0_1, .int .i64 a0_2, .int .i64 a0_3]] rfl (by (try simp only [List.map_toArray, List.map_cons, List.map_nil]); first | done | rfl | (simp only [List.length_drop, List.length_take]; rfl)) ?_; (with_reducible refine (rect_Empty.calls a0_0 a0_1 a0_2 a0_3 false _ A8.out).mono ?_); rintro e w14 ⟨rfl, hb⟩; refine ⟨_, rfl, ?_⟩; replace BK219 := zk BK219 hb; replace BK220 := zk BK220 hb; replace HB := zb HB hb; (try clear hb); (try clear hb2); (try clear hk); (try clear hi); obtain ⟨hcz15_0, hcz15_1, hcz15_2, hcz15_3, hfz15_0, hfz15_1, hfz15_2, hfz15_3⟩ := zq4 BK219))
    go_meet
    case rel => exact ⟨_, (true), (by first | rfl | (simp; done) | (simp [*]; done)), H', ⟨by first | omega | exact Nat.le_refl _⟩, ⟨by exact zk0 BK219⟩, ⟨by exact zk0 BK220⟩, ⟨by exact zb0 HB⟩⟩
   ·rw [if_neg c12] at H
    have c12b0 : decide ((wrap64 (a0_2 + (wrap64 (2 * t221)))) ≤ 0) = false := decide_eq_false c12
    clear c12
    (first | rw [c12b0] | (simp only [i64_w, i32_w]; rw [c12b0]) | skip)
    have H' := Aside0.mk H
    clear H
    obtain ⟨hcz16_0, hcz16_1, hcz16_2, hcz16_3, hfz16_0, hfz16_1, hfz16_2, hfz16_3⟩ := zq4 BK219
    go_wp2_with (first | ((with_reducible refine gate_callee (f := 36) rfl ?_); refine goesL_ (some 8) rfl rfl Try.func36 (by kernel_rfl) rfl #[.agg #[.int .i64 a0_0, .int .i64 a0_1, .int .i64 a0_2, .int .i64 a0_3]] rfl (by (try simp only [List.map_toArray, List.map_cons, List.map_nil]); first | done | rfl | (simp only [List.length_drop, List.length_take]; rfl)) ?_; (with_reducible refine (rect_Empty.calls a0_0 a0_1 a0_2 a0_3 false _ A8.out).mono ?_); rintro e w17 ⟨rfl, hb⟩; refine ⟨_, rfl, ?_⟩; replace BK219 := zk BK219 hb; replace BK220 := zk BK220 hb; replace HB := zb HB hb; (try clear hb); (try clear hb2); (try clear hk); (try clear hi); obtain ⟨hcz18_0, hcz18_1, hcz18_2, hcz18_3, hfz18_0, hfz18_1, hfz18_2, hfz18_3⟩ := zq4 BK219))
    go_meet
    case rel => exact ⟨_, (decide ((wrap64 (a0_3 + (wrap64 (2 * t221)))) ≤ 0)), (by first | rfl | (simp; done) | (simp [*]; done)), H', ⟨by first | omega | exact Nat.le_refl _⟩, ⟨by exact zk0 BK219⟩, ⟨by exact zk0 BK220⟩, ⟨by exact zb0 HB⟩⟩
 case rest =>
  clear HC4
  try clear c1
  try clear p2
  try clear c3
  try clear q4
  try clear p6
  try clear c7
  try clear c9
  try clear c12
  try clear c12b0
  try clear hcz10_0
  try clear hcz10_1
  try clear hcz10_2
  try clear hcz10_3
  try clear hcz13_0
  try clear hcz13_1
  try clear hcz13_2
  try clear hcz13_3
  try clear hcz15_0
  try clear hcz15_1
  try clear hcz15_2
  try clear hcz15_3
  try clear hcz16_0
  try clear hcz16_1
  try clear hcz16_2
  try clear hcz16_3
  try clear hcz18_0
  try clear hcz18_1
  try clear hcz18_2
  try clear hcz18_3
  try clear hfz10_0
  try clear hfz10_1
  try clear hfz10_2
  try clear hfz10_3
  try clear hfz13_0
  try clear hfz13_1
  try clear hfz13_2
  try clear hfz13_3
  try clear hfz15_0
  try clear hfz15_1
  try clear hfz15_2
  try clear hfz15_3
  try clear hfz16_0
  try clear hfz16_1
  try clear hfz16_2
  try clear hfz16_3
  try clear hfz18_0
  try clear hfz18_1
  try clear hfz18_2
  try clear hfz18_3
  obtain ⟨kq, x24_3, rfl, HA, HJ3, BK219, BK220, HB⟩ := hcut
  cases kq with
  | zero => exact absurd HA.out (by simp [rect_Grow.j0])
  | succ kj3 =>
   have H := HA.out
   clear HA
   simp only [rect_Grow.j0] at H
   by_cases c19 : x24_3 = true
   ·subst c19
    have H1 : (some (0, 0, 0, 0)) = some (r1, r2, r3, r4) := by rw [if_pos rfl] at H; exact H
    clear H
    have H := H1
    clear H1
    simp only [Option.some.injEq, Prod.mk.injEq] at H
    obtain ⟨rfl, rfl, rfl, rfl⟩ := H
    have hnb20 := NB220_219.out
    have hnc20 := NB219_220.out
    obtain ⟨hcz21_0, hcz21_1, hcz21_2, hcz21_3, hfz21_0, hfz21_1, hfz21_2, hfz21_3⟩ := zq4 BK220
    go_wp2
    refine bodyPost_ret (results_cell_row rfl _ _ gb220 34 #[.int .i64 0, .int .i64 0, .int .i64 0, .int .i64 0] (0, 0) _ rfl (by exact zp BK220 rfl) Try.underlying34 rfl (by kernel_rfl)) rfl ?_
    exact ⟨by first | rfl | (simp [errW_none, errW_some] <;> rfl) | (simp [*, errW_none, errW_some] <;> rfl), by exact zbo HB GE220⟩
   ·replace c19 := Bool.eq_false_iff.mpr c19
    subst c19
    have H1 : ((rect_world.f).bind fun bt223 => ((rect_meet.f (wrap64 (a0_0 - t221)) (wrap64 (a0_1 - t221)) (wrap64 (a0_2 + (wrap64 (2 * t221)))) (wrap64 (a0_3 + (wrap64 (2 * t221)))) bt223.1 bt223.2.1 bt223.2.2.1 bt223.2.2.2).bind fun bt227 => (some (bt227.1, bt227.2.1, bt227.2.2.1, bt227.2.2.2)))) = some (r1, r2, r3, r4) := by rw [if_neg (show ¬ (false = true) by decide)] at H; exact H
    clear H
    have H := H1
    clear H1
    replace H := Option.bind_eq_some_iff.mp H
    obtain ⟨⟨t223, t224, t225, t226⟩, A220, H⟩ := H
    replace H : ((rect_meet.f (wrap64 (a0_0 - t221)) (wrap64 (a0_1 - t221)) (wrap64 (a0_2 + (wrap64 (2 * t221)))) (wrap64 (a0_3 + (wrap64 (2 * t221)))) t223 t224 t225 t226).bind fun bt227 => (some (bt227.1, bt227.2.1, bt227.2.2.1, bt227.2.2.2))) = some (r1, r2, r3, r4) := H
    have A22 := Aside0.mk A220
    clear A220
    replace H := Option.bind_eq_some_iff.mp H
    obtain ⟨⟨t227, t228, t229, t230⟩, A230, H⟩ := H
    replace H : (some (t227, t228, t229, t230)) = some (r1, r2, r3, r4) := H
    have A23 := Aside0.mk A230
    clear A230
    simp only [Option.some.injEq, Prod.mk.injEq] at H
    obtain ⟨rfl, rfl, rfl, rfl⟩ := H
    try go_wp2
    replace BK219 := zkd BK219
    replace BK220 := zkd BK220
    replace HB := zbd HB
    refine start_ (n := 22) (S := fun w' => w'.cell? ⟨gb219, 0, none⟩ = some (.int .i64 a0_0) ∧ w'.cell? ⟨gb219, 1, none⟩ = some (.int .i64 a0_1) ∧ w'.cell? ⟨gb219, 2, none⟩ = some (.int .i64 a0_2) ∧ w'.cell? ⟨gb219, 3, none⟩ = some (.int .i64 a0_3)) (ds := []) (bs 22 0) (by kernel_rfl) rfl rfl ⟨(blk_cell BK219.out 0).trans rfl, (blk_cell BK219.out 1).trans rfl, (blk_cell BK219.out 2).trans rfl, (blk_cell BK219.out 3).trans rfl⟩ (fun hHeld => ?_); refine with_tabW rect_Grow.tab4 rect_Grow.bits4 (fun HT_ HW_ => ?_)
    generalize wc.drew = w24 at BK219 BK220 HB hHeld ⊢
    refine pure_ (i := 0) (N := some 26) (v := ?_) (a' := ?_) (bs 22 1) rfl rfl (any_of HT_.out (by kernel_rfl)) (fun _ _ _ h => h) (Or.inl ⟨by rfl, ?_⟩) ?_ ?_
    rotate_left
    ·intro w'
     go_simp
     with_reducible rfl
    rotate_left
    ·simp only [Act.put, sA, sB, sC, i64_w, i32_w]
     rfl
    refine pure_ (i := 2) (N := some 28) (v := ?_) (a' := ?_) (bs 22 5) rfl rfl (any_of HT_.out (by kernel_rfl)) (fun _ _ _ h => h) (Or.inl ⟨by rfl, ?_⟩) ?_ ?_
    rotate_left
    ·intro w'
     go_simp
     with_reducible rfl
    rotate_left
    ·simp only [Act.put, sA, sB, sC, i64_w, i32_w]
     rfl
    refine pure_ (i := 4) (N := some 30) (v := ?_) (a' := ?_) (bs 22 21) rfl rfl (any_of HT_.out (by kernel_rfl)) (fun _ _ _ h => h) (Or.inl ⟨by rfl, ?_⟩) ?_ ?_
    rotate_left
    ·intro w'
     go_simp
     with_reducible rfl
    rotate_left
    ·simp only [Act.put, sA, sB, sC, i64_w, i32_w]
     rfl
    refine pure_ (i := 6) (N := some 32) (v := ?_) (a' := ?_) (bs 22 85) rfl rfl (any_of HT_.out (by kernel_rfl)) (fun _ _ _ h => h) (Or.inl ⟨by rfl, ?_⟩) ?_ ?_
    rotate_left
    ·intro w'
     go_simp
     with_reducible rfl
    rotate_left
    ·simp only [Act.put, sA, sB, sC, i64_w, i32_w]
     rfl
    refine pure_ (i := 8) (N := some 34) (v := ?_) (a' := ?_) (bs 22 341) rfl rfl (any_of HT_.out (by kernel_rfl)) (fun _ _ _ h => h) (Or.inl ⟨by rfl, ?_⟩) ?_ ?_
    rotate_left
    ·intro w'
     go_simp
     with_reducible rfl
    rotate_left
    ·simp only [Act.put, sA, sB, sC, i64_w, i32_w]
     rfl
    refine pure_ (i := 10) (N := some 36) (v := ?_) (a' := ?_) (bs 22 1365) rfl rfl (any_of HT_.out (by kernel_rfl)) (fun _ _ _ h => h) (Or.inl ⟨by rfl, ?_⟩) ?_ ?_
    rotate_left
    ·intro w'
     go_simp
     with_reducible rfl
    rotate_left
    ·simp only [Act.put, sA, sB, sC, i64_w, i32_w]
     rfl
    refine pure_ (i := 11) (N := some 37) (v := ?_) (a' := ?_) (bs 22 3413) rfl rfl (any_of HT_.out (by kernel_rfl)) (fun _ _ _ h => h) (Or.inl ⟨by rfl, ?_⟩) ?_ ?_
    rotate_left
    ·intro w'
     go_simp
     with_reducible rfl
    rotate_left
    ·simp only [Act.put, sA, sB, sC, i64_w, i32_w]
     rfl
    refine pure_ (i := 13) (N := some 39) (v := ?_) (a' := ?_) (bs 22 11605) rfl rfl (any_of HT_.out (by kernel_rfl)) (fun _ _ _ h => h) (Or.inl ⟨by rfl, ?_⟩) ?_ ?_
    rotate_left
    ·intro w'
     go_simp
     with_reducible rfl
    rotate_left
    ·simp only [Act.put, sA, sB, sC, i64_w, i32_w]
     rfl
    refine pure_ (i := 15) (N := some 41) (v := ?_) (a' := ?_) (bs 22 44373) rfl rfl (any_of HT_.out (by kernel_rfl)) (fun _ _ _ h => h) (Or.inl ⟨by rfl, ?_⟩) ?_ ?_
    rotate_left
    ·intro w'
     go_simp
     with_reducible rfl
    rotate_left
    ·simp only [Act.put, sA, sB, sC, i64_w, i32_w]
     rfl
    refine pure_ (i := 16) (N := some 42) (v := ?_) (a' := ?_) (bs 22 109909) rfl rfl (any_of HT_.out (by kernel_rfl)) (fun _ _ _ h => h) (Or.inl ⟨by rfl, ?_⟩) ?_ ?_
    rotate_left
    ·intro w'
     go_simp
     with_reducible rfl
    rotate_left
    ·simp only [Act.put, sA, sB, sC, i64_w, i32_w]
     rfl
    refine take_ (i := 1) (N := some 27) (v := ?_) (a' := ?_) (bs 22 109911) rfl rfl (take_ofW HT_.out HW_.out (by kernel_rfl)) (fun _ _ _ h => h) (Or.inl ⟨by rfl, ?_⟩) hHeld ?_ ?_
    rotate_left
    ·rintro w' ⟨s0, s1, s2, s3⟩
     go_simp
     with_reducible rfl
    rotate_left
    ·simp only [Act.put, sA, sB, sC, i64_w, i32_w]
     rfl
    refine pure_ (i := 3) (N := some 29) (v := ?_) (a' := ?_) (bs 22 109919) rfl rfl (any_of HT_.out (by kernel_rfl)) (fun _ _ _ h => h) (Or.inl ⟨by rfl, ?_⟩) ?_ ?_
    rotate_left
    ·intro w'
     go_simp
     with_reducible rfl
    rotate_left
    ·simp only [Act.put, sA, sB, sC, i64_w, i32_w]
     rfl
    refine take_ (i := 5) (N := some 31) (v := ?_) (a' := ?_) (bs 22 109951) rfl rfl (take_ofW HT_.out HW_.out (by kernel_rfl)) (fun _ _ _ h => h) (Or.inl ⟨by rfl, ?_⟩) hHeld ?_ ?_
    rotate_left
    ·rintro w' ⟨s0, s1, s2, s3⟩
     go_simp
     with_reducible rfl
    rotate_left
    ·simp only [Act.put, sA, sB, sC, i64_w, i32_w]
     rfl
    refine pure_ (i := 7) (N := some 33) (v := ?_) (a' := ?_) (bs 22 110079) rfl rfl (any_of HT_.out (by kernel_rfl)) (fun _ _ _ h => h) (Or.inl ⟨by rfl, ?_⟩) ?_ ?_
    rotate_left
    ·intro w'
     go_simp
     with_reducible rfl
    rotate_left
    ·simp only [Act.put, sA, sB, sC, i64_w, i32_w]
     rfl
    refine take_ (i := 9) (N := some 35) (v := ?_) (a' := ?_) (bs 22 110591) rfl rfl (take_ofW HT_.out HW_.out (by kernel_rfl)) (fun _ _ _ h => h) (Or.inl ⟨by rfl, ?_⟩) hHeld ?_ ?_
    rotate_left
    ·rintro w' ⟨s0, s1, s2, s3⟩
     go_simp
     with_reducible rfl
    rotate_left
    ·simp only [Act.put, sA, sB, sC, i64_w, i32_w]
     rfl
    refine pure_ (i := 12) (N := some 38) (v := ?_) (a' := ?_) (bs 22 114687) rfl rfl (any_of HT_.out (by kernel_rfl)) (fun _ _ _ h => h) (Or.inl ⟨by rfl, ?_⟩) ?_ ?_
    rotate_left
    ·intro w'
     go_simp
     with_reducible rfl
    rotate_left
    ·simp only [Act.put, sA, sB, sC, i64_w, i32_w]
     rfl
    refine take_ (i := 14) (N := some 40) (v := ?_) (a' := ?_) (bs 22 131071) rfl rfl (take_ofW HT_.out HW_.out (by kernel_rfl)) (fun _ _ _ h => h) (Or.inl ⟨by rfl, ?_⟩) hHeld ?_ ?_
    rotate_left
    ·rintro w' ⟨s0, s1, s2, s3⟩
     go_simp
     with_reducible rfl
    rotate_left
    ·simp only [Act.put, sA, sB, sC, i64_w, i32_w]
     rfl
    refine pure_ (i := 17) (N := some 43) (v := ?_) (a' := ?_) (bs 22 262143) rfl rfl (any_of HT_.out (by kernel_rfl)) (fun _ _ _ h => h) (Or.inl ⟨by rfl, ?_⟩) ?_ ?_
    rotate_left
    ·intro w'
     go_simp
     with_reducible rfl
    rotate_left
    ·simp only [Act.put, sA, sB, sC, i64_w, i32_w]
     rfl
    refine pure_ (i := 18) (N := some 44) (v := ?_) (a' := ?_) (bs 22 524287) rfl rfl (any_of HT_.out (by kernel_rfl)) (fun _ _ _ h => h) (Or.inl ⟨by rfl, ?_⟩) ?_ ?_
    rotate_left
    ·intro w'
     go_simp
     with_reducible rfl
    rotate_left
    ·simp only [Act.put, sA, sB, sC, i64_w, i32_w]
     rfl
    refine one_ (i := 19) (N := some 45) (bs 22 1048575) rfl rfl (one_of HT_.out (by kernel_rfl)) (by decide) (fun K hK => ?_)
    refine goes_ Try.func72 (by kernel_rfl) rfl #[] (by rfl) rfl rfl (by (try simp only [List.map_toArray, List.map_cons, List.map_nil]); first | done | rfl | (simp only [List.length_drop, List.length_take]; rfl)) ?_
    with_reducible refine (rect_world.calls  t223 t224 t225 t226 _ A22.out).mono ?_
    rintro e w25 ⟨rfl, hb⟩
    refine ⟨_, rfl, ?_⟩
    replace BK219 := zk BK219 hb
    replace BK220 := zk BK220 hb
    replace HB := zb HB hb
    (try clear hb)
    (try clear hb2)
    (try clear hk)
    (try clear hi)
    refine hK.out _ _ ⟨(blk_cell BK219.out 0).trans rfl, (blk_cell BK219.out 1).trans rfl, (blk_cell BK219.out 2).trans rfl, (blk_cell BK219.out 3).trans rfl⟩ (fun hHeld => ?_)
    clear hK K
    refine norm_ (a' := ?_) ?_ ?_
    rotate_left
    ·show Act.put _ (some 45) _ = _
     simp only [Act.put, sA, sB, sC, i64_w, i32_w]
     rfl
    refine one_ (i := 20) (N := some 46) (bs 22 2097151) rfl rfl (one_of HT_.out (by kernel_rfl)) (by decide) (fun K hK => ?_)
    refine goes_ Try.func70 (by kernel_rfl) rfl #[.agg #[.int .i64 (wrap64 (a0_0 - t221)), .int .i64 (wrap64 (a0_1 - t221)), .int .i64 (wrap64 (a0_2 + (wrap64 (2 * t221)))), .int .i64 (wrap64 (a0_3 + (wrap64 (2 * t221))))], .agg #[.int .i64 t223, .int .i64 t224, .int .i64 t225, .int .i64 t226]] (by rfl) rfl rfl (by (try simp only [List.map_toArray, List.map_cons, List.map_nil]); first | done | rfl | (simp only [List.length_drop, List.length_take]; rfl)) ?_
    with_reducible refine (rect_meet.calls (wrap64 (a0_0 - t221)) (wrap64 (a0_1 - t221)) (wrap64 (a0_2 + (wrap64 (2 * t221)))) (wrap64 (a0_3 + (wrap64 (2 * t221)))) t223 t224 t225 t226 t227 t228 t229 t230 _ A23.out).mono ?_
    rintro e w26 ⟨rfl, hb⟩
    refine ⟨_, rfl, ?_⟩
    replace BK219 := zk BK219 hb
    replace BK220 := zk BK220 hb
    replace HB := zb HB hb
    (try clear hb)
    (try clear hb2)
    (try clear hk)
    (try clear hi)
    refine hK.out _ _ ⟨(blk_cell BK219.out 0).trans rfl, (blk_cell BK219.out 1).trans rfl, (blk_cell BK219.out 2).trans rfl, (blk_cell BK219.out 3).trans rfl⟩ (fun hHeld => ?_)
    clear hK K
    refine norm_ (a' := ?_) ?_ ?_
    rotate_left
    ·show Act.put _ (some 46) _ = _
     simp only [Act.put, sA, sB, sC, i64_w, i32_w]
     rfl
    refine one_ (i := 21) (N := none) (bs 22 4194303) rfl rfl (one_of HT_.out (by kernel_rfl)) (by decide) (fun K hK => ?_)
    have hs27 : w26.cell? ⟨gb220, 0, none⟩ = some (.int .i64 0) := (blk_cell BK220.out 0).trans rfl
    have hfs27 := blk_frozen BK220.out 0
    have hns27_0 := NB219_220.out
    have hms27_0 := NB220_219.out
    have hs28 : w26.cell? ⟨gb220, 1, none⟩ = some (.int .i64 0) := (blk_cell BK220.out 1).trans rfl
    have hfs28 := blk_frozen BK220.out 1
    have hns28_0 := NB219_220.out
    have hms28_0 := NB220_219.out
    have hs29 : w26.cell? ⟨gb220, 2, none⟩ = some (.int .i64 0) := (blk_cell BK220.out 2).trans rfl
    have hfs29 := blk_frozen BK220.out 2
    have hns29_0 := NB219_220.out
    have hms29_0 := NB220_219.out
    have hs30 : w26.cell? ⟨gb220, 3, none⟩ = some (.int .i64 0) := (blk_cell BK220.out 3).trans rfl
    have hfs30 := blk_frozen BK220.out 3
    have hns30_0 := NB219_220.out
    have hms30_0 := NB220_219.out
    refine skip_ (w1 := ?_) (by rfl) rfl ?_ ?_
    rotate_left
    ·go_simp
     rfl
    refine hK.out _ _ ⟨((cell_far (p := ⟨gb220, _, none⟩) NB219_220.out _).trans (((cell_far (p := ⟨gb220, _, none⟩) NB219_220.out _).trans (((cell_far (p := ⟨gb220, _, none⟩) NB219_220.out _).trans (((cell_far (p := ⟨gb220, _, none⟩) NB219_220.out _).trans (hHeld.1)))))))), ((cell_far (p := ⟨gb220, _, none⟩) NB219_220.out _).trans (((cell_far (p := ⟨gb220, _, none⟩) NB219_220.out _).trans (((cell_far (p := ⟨gb220, _, none⟩) NB219_220.out _).trans (((cell_far (p := ⟨gb220, _, none⟩) NB219_220.out _).trans (hHeld.2.1)))))))), ((cell_far (p := ⟨gb220, _, none⟩) NB219_220.out _).trans (((cell_far (p := ⟨gb220, _, none⟩) NB219_220.out _).trans (((cell_far (p := ⟨gb220, _, none⟩) NB219_220.out _).trans (((cell_far (p := ⟨gb220, _, none⟩) NB219_220.out _).trans (hHeld.2.2.1)))))))), ((cell_far (p := ⟨gb220, _, none⟩) NB219_220.out _).trans (((cell_far (p := ⟨gb220, _, none⟩) NB219_220.out _).trans (((cell_far (p := ⟨gb220, _, none⟩) NB219_220.out _).trans (((cell_far (p := ⟨gb220, _, none⟩) NB219_220.out _).trans (hHeld.2.2.2))))))))⟩ (fun hHeld => ?_)
    clear hK K
    refine done_ (done_of HT_.out (by kernel_rfl)) ?_
    try go_wp2
    refine bodyPost_ret (results_cell_row rfl _ _ gb220 34 #[.int .i64 t227, .int .i64 t228, .int .i64 t229, .int .i64 t230] (0, 0) _ rfl (by exact zp BK220 rfl) Try.underlying34 rfl (by kernel_rfl)) rfl ?_
    exact ⟨by first | rfl | (simp [errW_none, errW_some] <;> rfl) | (simp [*, errW_none, errW_some] <;> rfl), by exact zbo HB GE220⟩

/-! ### kernel_Support: function 39 -/
def kernel_Support.f (a0 : Int) : Option (Int) := (kernel_Valid.f a0).bind fun t231 => (if t231 = true then (if a0 = 2 then (some 2) else (if a0 = 4 then (some 2) else (some 1))) else (some 0))
set_option maxHeartbeats 8000000 in
set_option maxRecDepth 100000 in
theorem kernel_Support.calls (a0 : Int) (r : Int) (w : World) (h : kernel_Support.f a0 = some r) :
  Calls Try.prog 39 #[.int .i64 a0] w fun e w' => e = .returned (.int .i64 r) ∧ Drawn0 w w' := by
 have H : ((kernel_Valid.f a0).bind fun t231 => (if t231 = true then (if a0 = 2 then (some 2) else (if a0 = 4 then (some 2) else (some 1))) else (some 0))) = some r := h
 clear h
 replace H := Option.bind_eq_some_iff.mp H
 obtain ⟨t231, A20, H⟩ := H
 replace H : (if t231 = true then (if a0 = 2 then (some 2) else (if a0 = 4 then (some 2) else (some 1))) else (some 0)) = some r := H
 have A2 := Aside0.mk A20
 clear A20
 by_cases c3 : t231 = true
 ·subst c3
  have H1 : (if a0 = 2 then (some 2) else (if a0 = 4 then (some 2) else (some 1))) = some r := by rw [if_pos rfl] at H; exact H
  clear H
  have H := H1
  clear H1
  by_cases c4 : a0 = 2
  ·rw [if_pos c4] at H
   have c4b0 : (a0 == 2) = true := beq_iff_eq.mpr c4
   have c4b1 : (a0 != 2) = false := bne_eq_false_iff_eq.mpr c4
   clear c4
   obtain rfl := Option.some.inj H
   go_enter Try.func39, Try.ntmps39
   go_wp2_with (first | ((with_reducible refine gate_callee (f := 34) rfl ?_); refine goesL_ (some 5) rfl rfl Try.func34 (by kernel_rfl) rfl #[.int .i64 a0] rfl (by (try simp only [List.map_toArray, List.map_cons, List.map_nil]); first | done | rfl | (simp only [List.length_drop, List.length_take]; rfl)) ?_; (with_reducible refine (kernel_Valid.calls a0 true _ A2.out).mono ?_); rintro e w' ⟨rfl, ⟨nd, rfl⟩⟩; refine ⟨_, rfl, ?_⟩))
   go_ret
   exact ⟨by first | rfl | (simp; done) | (simp [*]; done), by repeat (first | exact Drawn0.refl _ | apply Drawn0.step)⟩
  ·rw [if_neg c4] at H
   have c4b0 : (a0 == 2) = false := beq_eq_false_iff_ne.mpr c4
   have c4b1 : (a0 != 2) = true := bne_iff_ne.mpr c4
   by_cases c5 : a0 = 4
   ·rw [if_pos c5] at H
    have c5b0 : (a0 == 4) = true := beq_iff_eq.mpr c5
    have c5b1 : (a0 != 4) = false := bne_eq_false_iff_eq.mpr c5
    clear c5
    obtain rfl := Option.some.inj H
    go_enter Try.func39, Try.ntmps39
    go_wp2_with (first | ((with_reducible refine gate_callee (f := 34) rfl ?_); refine goesL_ (some 5) rfl rfl Try.func34 (by kernel_rfl) rfl #[.int .i64 a0] rfl (by (try simp only [List.map_toArray, List.map_cons, List.map_nil]); first | done | rfl | (simp only [List.length_drop, List.length_take]; rfl)) ?_; (with_reducible refine (kernel_Valid.calls a0 true _ A2.out).mono ?_); rintro e w' ⟨rfl, ⟨nd, rfl⟩⟩; refine ⟨_, rfl, ?_⟩))
    go_ret
    exact ⟨by first | rfl | (simp; done) | (simp [*]; done), by repeat (first | exact Drawn0.refl _ | apply Drawn0.step)⟩
   ·rw [if_neg c5] at H
    have c5b0 : (a0 == 4) = false := beq_eq_false_iff_ne.mpr c5
    have c5b1 : (a0 != 4) = true := bne_iff_ne.mpr c5
    obtain rfl := Option.some.inj H
    go_enter Try.func39, Try.ntmps39
    go_wp2_with (first | ((with_reducible refine gate_callee (f := 34) rfl ?_); refine goesL_ (some 5) rfl rfl Try.func34 (by kernel_rfl) rfl #[.int .i64 a0] rfl (by (try simp only [List.map_toArray, List.map_cons, List.map_nil]); first | done | rfl | (simp only [List.length_drop, List.length_take]; rfl)) ?_; (with_reducible refine (kernel_Valid.calls a0 true _ A2.out).mono ?_); rintro e w' ⟨rfl, ⟨nd, rfl⟩⟩; refine ⟨_, rfl, ?_⟩))
    go_ret
    exact ⟨by first | rfl | (simp; done) | (simp [*]; done), by repeat (first | exact Drawn0.refl _ | apply Drawn0.step)⟩
 ·replace c3 := Bool.eq_false_iff.mpr c3
  subst c3
  have H1 : (some 0) = some r := by rw [if_neg (show ¬ (false = true) by decide)] at H; exact H
  clear H
  have H := H1
  clear H1
  obtain rfl := Option.some.inj H
  go_enter Try.func39, Try.ntmps39
  go_wp2_with (first | ((with_reducible refine gate_callee (f := 34) rfl ?_); refine goesL_ (some 5) rfl rfl Try.func34 (by kernel_rfl) rfl #[.int .i64 a0] rfl (by (try simp only [List.map_toArray, List.map_cons, List.map_nil]); first | done | rfl | (simp only [List.length_drop, List.length_take]; rfl)) ?_; (with_reducible refine (kernel_Valid.calls a0 false _ A2.out).mono ?_); rintro e w' ⟨rfl, ⟨nd, rfl⟩⟩; refine ⟨_, rfl, ?_⟩))
  go_ret
  exact ⟨by first | rfl | (simp; done) | (simp [*]; done), by repeat (first | exact Drawn0.refl _ | apply Drawn0.step)⟩

/-! ### warp_Needs: function 17 -/
def warp_Needs.j0 : Nat → Int → Bool → Int → Int → Int → List (S28) → Int → Int → Int → Int → Int → Int → Int → Int → Option (Int × Int × Int × Int × Int)
 | 0, _, _, _, _, _, _, _, _, _, _, _, _, _, _ => none
 | k + 1, x1, x38, x233000, x233001, x233002, x233003, x234000, x234001, x234002, x234003, x235000, x235001, x235002, x235003 => if x38 = true then (some (0, 0, 0, 0, 2)) else ((warp_Reach.f k x233000 x233001 x233002 x233003).bind fun t242 => ((kernel_Support.f x1).bind fun t243 => ((rect_Grow.f k x234000 x234001 x234002 x234003 (wrap64 ((wrap64 (t242 + t243)) + 1))).bind fun bt244 => ((rect_Meet.f bt244.1 bt244.2.1 bt244.2.2.1 bt244.2.2.2 x235000 x235001 x235002 x235003).bind fun bt248 => (some (bt248.1, bt248.2.1, bt248.2.2.1, bt248.2.2.2, 0))))))
def warp_Needs.f (k : Nat) (a0_0 : Int) (a0_1 : Int) (a0_2 : Int) (l0_3 : List (S28)) (a1 : Int) (a2_0 : Int) (a2_1 : Int) (a2_2 : Int) (a2_3 : Int) (a3_0 : Int) (a3_1 : Int) (a3_2 : Int) (a3_3 : Int) : Option (Int × Int × Int × Int × Int) := (warp_Check.f k a0_0 a0_1 a0_2 l0_3).bind fun t236 => (if t236 = 0 then ((kernel_Valid.f a1).bind fun t237 => (if t237 = true then ((rect_Valid.f a2_0 a2_1 a2_2 a2_3).bind fun t238 => (if t238 = true then ((rect_Valid.f a3_0 a3_1 a3_2 a3_3).bind fun t239 => (if t239 = true then ((rect_Empty.f a2_0 a2_1 a2_2 a2_3).bind fun t240 => (if t240 = true then (warp_Needs.j0 k a1 true a0_0 a0_1 a0_2 l0_3 a2_0 a2_1 a2_2 a2_3 a3_0 a3_1 a3_2 a3_3) else ((rect_Within.f a2_0 a2_1 a2_2 a2_3 a3_0 a3_1 a3_2 a3_3).bind fun t241 => (warp_Needs.j0 k a1 (!t241) a0_0 a0_1 a0_2 l0_3 a2_0 a2_1 a2_2 a2_3 a3_0 a3_1 a3_2 a3_3)))) else (warp_Needs.j0 k a1 true a0_0 a0_1 a0_2 l0_3 a2_0 a2_1 a2_2 a2_3 a3_0 a3_1 a3_2 a3_3))) else (warp_Needs.j0 k a1 true a0_0 a0_1 a0_2 l0_3 a2_0 a2_1 a2_2 a2_3 a3_0 a3_1 a3_2 a3_3))) else (some (0, 0, 0, 0, 8)))) else (some (0, 0, 0, 0, t236)))
theorem warp_Needs.mono_l : ∀ k, (∀ y0 y1 y2 y3 y4 y5 y6 y7 y8 y9 y10 y11 y12 y13, LeO (warp_Needs.j0 k y0 y1 y2 y3 y4 y5 y6 y7 y8 y9 y10 y11 y12 y13) (warp_Needs.j0 (k + 1) y0 y1 y2 y3 y4 y5 y6 y7 y8 y9 y10 y11 y12 y13))
 | 0 => fun _ _ _ _ _ _ _ _ _ _ _ _ _ _ r h => by simp [warp_Needs.j0] at h
 | k + 1 => by
  have ih0 := warp_Needs.mono_l k
  ·intro y0 y1 y2 y3 y4 y5 y6 y7 y8 y9 y10 y11 y12 y13
   unfold warp_Needs.j0
   repeat' first
   | (with_reducible exact ih0 _ _ _ _ _ _ _ _ _ _ _ _ _ _)
   | (with_reducible exact rect_Grow.mono _ _ _ _ _ _)
   | (with_reducible exact warp_Check.mono _ _ _ _ _)
   | (with_reducible exact warp_Reach.mono _ _ _ _ _)
   | (with_reducible exact LeO.refl _)
   | (with_reducible exact LeO.none _)
   | (with_reducible refine LeO.ite ?_ ?_)
   | (with_reducible refine LeO.bind ?_ (fun _ => ?_))
   | exact ih0 _ _ _ _ _ _ _ _ _ _ _ _ _ _
   | exact rect_Grow.mono _ _ _ _ _ _
   | exact warp_Check.mono _ _ _ _ _
   | exact warp_Reach.mono _ _ _ _ _
   | exact LeO.none _
   | refine LeO.ite ?_ ?_
   | refine LeO.bind ?_ (fun _ => ?_)
theorem warp_Needs.mono : ∀ a0 a1 a2 a3 a4 a5 a6 a7 a8 a9 a10 a11 a12 k, LeO (warp_Needs.f k a0 a1 a2 a3 a4 a5 a6 a7 a8 a9 a10 a11 a12) (warp_Needs.f (k + 1) a0 a1 a2 a3 a4 a5 a6 a7 a8 a9 a10 a11 a12) := by
 intro a0 a1 a2 a3 a4 a5 a6 a7 a8 a9 a10 a11 a12 k
 have ih0 := warp_Needs.mono_l k
 unfold warp_Needs.f
 repeat' first
   | (with_reducible exact ih0 _ _ _ _ _ _ _ _ _ _ _ _ _ _)
   | (with_reducible exact rect_Grow.mono _ _ _ _ _ _)
   | (with_reducible exact warp_Check.mono _ _ _ _ _)
   | (with_reducible exact warp_Reach.mono _ _ _ _ _)
   | (with_reducible exact LeO.refl _)
   | (with_reducible exact LeO.none _)
   | (with_reducible refine LeO.ite ?_ ?_)
   | (with_reducible refine LeO.bind ?_ (fun _ => ?_))
   | exact ih0 _ _ _ _ _ _ _ _ _ _ _ _ _ _
   | exact rect_Grow.mono _ _ _ _ _ _
   | exact warp_Check.mono _ _ _ _ _
   | exact warp_Reach.mono _ _ _ _ _
   | exact LeO.none _
   | refine LeO.ite ?_ ?_
   | refine LeO.bind ?_ (fun _ => ?_)
def warp_Needs.T8 : Bool × List (List Nat × List Nat) := (true, [([], []), ([], []), ([1], [1]), ([], []), ([3, 2], [3]), ([2, 4], [2, 4]), ([5], [5]), ([0, 6, 4], [0, 6]), ([], []), ([7, 8, 7], [7, 8]), ([9, 9, 0, 1, 2, 3, 4, 5, 6, 7, 8, 9], [9]), ([10, 0, 1, 2, 3, 4, 5, 6, 7, 8, 9, 10], [])])
def warp_Needs.B8 : List Nat := [0, 0, 2, 0, 14, 30, 62, 127, 0, 511, 1023, 2047]
theorem warp_Needs.tab8 : rtab .any (opsOf Try.f17 8) = warp_Needs.T8 := by kernel_rfl
theorem warp_Needs.bits8 : waitsOk warp_Needs.T8.2 warp_Needs.B8 = true := by kernel_rfl
set_option maxHeartbeats 8000000 in
set_option maxRecDepth 100000 in
theorem warp_Needs.calls (k : Nat) (a0_0 : Int) (a0_1 : Int) (a0_2 : Int) (A0_3 : Option Addr) (c0_3 : Nat) (l0_3 : List (S28)) (a1 : Int) (a2_0 : Int) (a2_1 : Int) (a2_2 : Int) (a2_3 : Int) (a3_0 : Int) (a3_1 : Int) (a3_2 : Int) (a3_3 : Int) (r1 : Int) (r2 : Int) (r3 : Int) (r4 : Int) (r5 : Int) (w : World) (hr0_3 : Kd.C k28 w A0_3 l0_3.length l0_3) (hc0_3 : l0_3.length ≤ c0_3) (h : warp_Needs.f k a0_0 a0_1 a0_2 l0_3 a1 a2_0 a2_1 a2_2 a2_3 a3_0 a3_1 a3_2 a3_3 = some (r1, r2, r3, r4, r5)) :
  Calls Try.prog 17 #[.agg #[.int .i64 a0_0, .int .i64 a0_1, .int .i64 a0_2, .slice A0_3 l0_3.length c0_3], .int .i64 a1, .agg #[.int .i64 a2_0, .int .i64 a2_1, .int .i64 a2_2, .int .i64 a2_3], .agg #[.int .i64 a3_0, .int .i64 a3_1, .int .i64 a3_2, .int .i64 a3_3]] w fun e w' => e = .returned (.tuple #[.agg #[.int .i64 r1, .int .i64 r2, .int .i64 r3, .int .i64 r4], .int .i64 r5]) ∧ Below w.heap.size w w' := by
 have hu24 := Try.underlying24
 have hu34 := Try.underlying34
 have HR0_3 := Aside0.mk hr0_3
 have HC0_3 := Aside0.mk hc0_3
 clear hr0_3 hc0_3
 have HB := Aside0.mk (Below.refl w.heap.size w)
 have H : ((warp_Check.f k a0_0 a0_1 a0_2 l0_3).bind fun t236 => (if t236 = 0 then ((kernel_Valid.f a1).bind fun t237 => (if t237 = true then ((rect_Valid.f a2_0 a2_1 a2_2 a2_3).bind fun t238 => (if t238 = true then ((rect_Valid.f a3_0 a3_1 a3_2 a3_3).bind fun t239 => (if t239 = true then ((rect_Empty.f a2_0 a2_1 a2_2 a2_3).bind fun t240 => (if t240 = true then (warp_Needs.j0 k a1 true a0_0 a0_1 a0_2 l0_3 a2_0 a2_1 a2_2 a2_3 a3_0 a3_1 a3_2 a3_3) else ((rect_Within.f a2_0 a2_1 a2_2 a2_3 a3_0 a3_1 a3_2 a3_3).bind fun t241 => (warp_Needs.j0 k a1 (!t241) a0_0 a0_1 a0_2 l0_3 a2_0 a2_1 a2_2 a2_3 a3_0 a3_1 a3_2 a3_3)))) else (warp_Needs.j0 k a1 true a0_0 a0_1 a0_2 l0_3 a2_0 a2_1 a2_2 a2_3 a3_0 a3_1 a3_2 a3_3))) else (warp_Needs.j0 k a1 true a0_0 a0_1 a0_2 l0_3 a2_0 a2_1 a2_2 a2_3 a3_0 a3_1 a3_2 a3_3))) else (some (0, 0, 0, 0, 8)))) else (some (0, 0, 0, 0, t236)))) = some (r1, r2, r3, r4, r5) := h
 clear h
 replace H := Option.bind_eq_some_iff.mp H
 obtain ⟨t236, A50, H⟩ := H
 replace H : (if t236 = 0 then ((kernel_Valid.f a1).bind fun t237 => (if t237 = true then ((rect_Valid.f a2_0 a2_1 a2_2 a2_3).bind fun t238 => (if t238 = true then ((rect_Valid.f a3_0 a3_1 a3_2 a3_3).bind fun t239 => (if t239 = true then ((rect_Empty.f a2_0 a2_1 a2_2 a2_3).bind fun t240 => (if t240 = true then (warp_Needs.j0 k a1 true a0_0 a0_1 a0_2 l0_3 a2_0 a2_1 a2_2 a2_3 a3_0 a3_1 a3_2 a3_3) else ((rect_Within.f a2_0 a2_1 a2_2 a2_3 a3_0 a3_1 a3_2 a3_3).bind fun t241 => (warp_Needs.j0 k a1 (!t241) a0_0 a0_1 a0_2 l0_3 a2_0 a2_1 a2_2 a2_3 a3_0 a3_1 a3_2 a3_3)))) else (warp_Needs.j0 k a1 true a0_0 a0_1 a0_2 l0_3 a2_0 a2_1 a2_2 a2_3 a3_0 a3_1 a3_2 a3_3))) else (warp_Needs.j0 k a1 true a0_0 a0_1 a0_2 l0_3 a2_0 a2_1 a2_2 a2_3 a3_0 a3_1 a3_2 a3_3))) else (some (0, 0, 0, 0, 8)))) else (some (0, 0, 0, 0, t236))) = some (r1, r2, r3, r4, r5) := H
 have A5 := Aside0.mk A50
 clear A50
 by_cases c6 : t236 = 0
 ·rw [if_pos c6] at H
  have c6b0 : (t236 == 0) = true := beq_iff_eq.mpr c6
  have c6b1 : (t236 != 0) = false := bne_eq_false_iff_eq.mpr c6
  clear c6
  replace H := Option.bind_eq_some_iff.mp H
  obtain ⟨t237, A70, H⟩ := H
  replace H : (if t237 = true then ((rect_Valid.f a2_0 a2_1 a2_2 a2_3).bind fun t238 => (if t238 = true then ((rect_Valid.f a3_0 a3_1 a3_2 a3_3).bind fun t239 => (if t239 = true then ((rect_Empty.f a2_0 a2_1 a2_2 a2_3).bind fun t240 => (if t240 = true then (warp_Needs.j0 k a1 true a0_0 a0_1 a0_2 l0_3 a2_0 a2_1 a2_2 a2_3 a3_0 a3_1 a3_2 a3_3) else ((rect_Within.f a2_0 a2_1 a2_2 a2_3 a3_0 a3_1 a3_2 a3_3).bind fun t241 => (warp_Needs.j0 k a1 (!t241) a0_0 a0_1 a0_2 l0_3 a2_0 a2_1 a2_2 a2_3 a3_0 a3_1 a3_2 a3_3)))) else (warp_Needs.j0 k a1 true a0_0 a0_1 a0_2 l0_3 a2_0 a2_1 a2_2 a2_3 a3_0 a3_1 a3_2 a3_3))) else (warp_Needs.j0 k a1 true a0_0 a0_1 a0_2 l0_3 a2_0 a2_1 a2_2 a2_3 a3_0 a3_1 a3_2 a3_3))) else (some (0, 0, 0, 0, 8))) = some (r1, r2, r3, r4, r5) := H
  have A7 := Aside0.mk A70
  clear A70
  by_cases c8 : t237 = true
  ·subst c8
   have H1 : ((rect_Valid.f a2_0 a2_1 a2_2 a2_3).bind fun t238 => (if t238 = true then ((rect_Valid.f a3_0 a3_1 a3_2 a3_3).bind fun t239 => (if t239 = true then ((rect_Empty.f a2_0 a2_1 a2_2 a2_3).bind fun t240 => (if t240 = true then (warp_Needs.j0 k a1 true a0_0 a0_1 a0_2 l0_3 a2_0 a2_1 a2_2 a2_3 a3_0 a3_1 a3_2 a3_3) else ((rect_Within.f a2_0 a2_1 a2_2 a2_3 a3_0 a3_1 a3_2 a3_3).bind fun t241 => (warp_Needs.j0 k a1 (!t241) a0_0 a0_1 a0_2 l0_3 a2_0 a2_1 a2_2 a2_3 a3_0 a3_1 a3_2 a3_3)))) else (warp_Needs.j0 k a1 true a0_0 a0_1 a0_2 l0_3 a2_0 a2_1 a2_2 a2_3 a3_0 a3_1 a3_2 a3_3))) else (warp_Needs.j0 k a1 true a0_0 a0_1 a0_2 l0_3 a2_0 a2_1 a2_2 a2_3 a3_0 a3_1 a3_2 a3_3))) = some (r1, r2, r3, r4, r5) := by rw [if_pos rfl] at H; exact H
   clear H
   have H := H1
   clear H1
   have HC9 := Aside0.mk H
   clear H
   go_enter Try.func17, Try.ntmps17
   go_upto_region 6 with (first | ((with_reducible refine gate_dst (N := 4) rfl ?_); refine box_event ?hg (N := 4) ?hd (cs := #[.int .i64 a0_0, .int .i64 a0_1, .int .i64 a0_2, .slice A0_3 l0_3.length c0_3]) (t := 24) ?hr ?_; (case hd => rfl); (case hg => rfl); (case hr => first | (go_simp; done) | (go_simp; rfl)); intro gb232 hg w10 hbox hb; have GW232 := zg HB hg; have GE232 := zg HB hg; have n0_ := Aside0.mk (hbox); replace HB := zb HB hb; have BK232 := n0_; clear n0_; clear hb hbox hg) | ((with_reducible refine gate_dst (N := 6) rfl ?_); refine box_event ?hg (N := 6) ?hd (cs := #[.int .i64 a2_0, .int .i64 a2_1, .int .i64 a2_2, .int .i64 a2_3]) (t := 34) ?hr ?_; (case hd => rfl); (case hg => rfl); (case hr => first | (go_simp; done) | (go_simp; rfl)); intro gb233 hg w11 hbox hb; have GW233 := zg HB hg; have GE233 := zg HB hg; have NB232_233 := zn BK232 hg; have NB233_232 := zn' BK232 hg; have n0_ := Aside0.mk (hbox); replace BK232 := zk BK232 hb; replace HB := zb HB hb; have BK233 := n0_; clear n0_; clear hb hbox hg) | ((with_reducible refine gate_dst (N := 7) rfl ?_); refine box_event ?hg (N := 7) ?hd (cs := #[.int .i64 a3_0, .int .i64 a3_1, .int .i64 a3_2, .int .i64 a3_3]) (t := 34) ?hr ?_; (case hd => rfl); (case hg => rfl); (case hr => first | (go_simp; done) | (go_simp; rfl)); intro gb234 hg w12 hbox hb; have GW234 := zg HB hg; have GE234 := zg HB hg; have NB232_234 := zn BK232 hg; have NB234_232 := zn' BK232 hg; have NB233_234 := zn BK233 hg; have NB234_233 := zn' BK233 hg; have n0_ := Aside0.mk (hbox); replace BK232 := zk BK232 hb; replace BK233 := zk BK233 hb; replace HB := zb HB hb; have BK234 := n0_; clear n0_; clear hb hbox hg) | ((with_reducible refine gate_dst (N := 8) rfl ?_); refine box_event ?hg (N := 8) ?hd (cs := #[.int .i64 0, .int .i64 0, .int .i64 0, .int .i64 0]) (t := 34) ?hr ?_; (case hd => rfl); (case hg => rfl); (case hr => first | (go_simp; done) | (go_simp; rfl)); intro gb235 hg w13 hbox hb; have GW235 := zg HB hg; have GE235 := zg HB hg; have NB232_235 := zn BK232 hg; have NB235_232 := zn' BK232 hg; have NB233_235 := zn BK233 hg; have NB235_233 := zn' BK233 hg; have NB234_235 := zn BK234 hg; have NB235_234 := zn' BK234 hg; have n0_ := Aside0.mk (hbox); replace BK232 := zk BK232 hb; replace BK233 := zk BK233 hb; replace BK234 := zk BK234 hb; replace HB := zb HB hb; have BK235 := n0_; clear n0_; clear hb hbox hg; obtain ⟨hcz14_0, hcz14_1, hcz14_2, hcz14_3, hfz14_0, hfz14_1, hfz14_2, hfz14_3⟩ := zq4 BK232) | ((with_reducible refine gate_callee (f := 10) rfl ?_); refine goesL_ (some 12) rfl rfl Try.func10 (by kernel_rfl) rfl #[.agg #[.int .i64 a0_0, .int .i64 a0_1, .int .i64 a0_2, .slice A0_3 l0_3.length c0_3]] rfl (by (try simp only [List.map_toArray, List.map_cons, List.map_nil]); first | done | rfl | (simp only [List.length_drop, List.length_take]; rfl)) ?_; (with_reducible refine (warp_Check.calls k a0_0 a0_1 a0_2 _ _ l0_3 t236 _ ?side1 ?side2 A5.out).mono ?_); (case side1 => repeat (first | exact (Kd.C_below HR0_3.out HB.out) | (with_reducible refine Kd.C_alloc ?_ _) | (with_reducible refine Kd.C_drewN ?_ _) | (with_reducible refine Kd.C_drew ?_))); (case side2 => exact HC0_3.out); rintro e w15 ⟨rfl, hb⟩; refine ⟨_, rfl, ?_⟩; replace BK232 := zk BK232 hb; replace BK233 := zk BK233 hb; replace BK234 := zk BK234 hb; replace BK235 := zk BK235 hb; replace HB := zb HB hb; (try clear hb); (try clear hb2); (try clear hk); (try clear hi)) | ((with_reducible refine gate_callee (f := 34) rfl ?_); refine goesL_ (some 18) rfl rfl Try.func34 (by kernel_rfl) rfl #[.int .i64 a1] rfl (by (try simp only [List.map_toArray, List.map_cons, List.map_nil]); first | done | rfl | (simp only [List.length_drop, List.length_take]; rfl)) ?_; (with_reducible refine (kernel_Valid.calls a1 true _ A7.out).mono ?_); rintro e w' ⟨rfl, ⟨nd, rfl⟩⟩; refine ⟨_, rfl, ?_⟩))
   (try simp only [Act.put, sA, sB, sC])
   go_cut [38] (fun v38 wc => ∃ (kq : Nat) (x38_8 : Bool), v38 = .bool x38_8 ∧ Aside0 (warp_Needs.j0 kq a1 x38_8 a0_0 a0_1 a0_2 l0_3 a2_0 a2_1 a2_2 a2_3 a3_0 a3_1 a3_2 a3_3 = some (r1, r2, r3, r4, r5)) ∧ Aside0 (kq ≤ k) ∧ Aside0 (wc.heap[gb232]? = some (.cells #[.int .i64 a0_0, .int .i64 a0_1, .int .i64 a0_2, (.slice A0_3 l0_3.length c0_3)] 24 (0, 0))) ∧ Aside0 (wc.heap[gb233]? = some (.cells #[.int .i64 a2_0, .int .i64 a2_1, .int .i64 a2_2, .int .i64 a2_3] 34 (0, 0))) ∧ Aside0 (wc.heap[gb234]? = some (.cells #[.int .i64 a3_0, .int .i64 a3_1, .int .i64 a3_2, .int .i64 a3_3] 34 (0, 0))) ∧ Aside0 (wc.heap[gb235]? = some (.cells #[.int .i64 0, .int .i64 0, .int .i64 0, .int .i64 0] 34 (0, 0))) ∧ Aside0 (Below w.heap.size w wc))
   case first =>
    have H := HC9.out
    clear HC9
    replace H := Option.bind_eq_some_iff.mp H
    obtain ⟨t238, A160, H⟩ := H
    replace H : (if t238 = true then ((rect_Valid.f a3_0 a3_1 a3_2 a3_3).bind fun t239 => (if t239 = true then ((rect_Empty.f a2_0 a2_1 a2_2 a2_3).bind fun t240 => (if t240 = true then (warp_Needs.j0 k a1 true a0_0 a0_1 a0_2 l0_3 a2_0 a2_1 a2_2 a2_3 a3_0 a3_1 a3_2 a3_3) else ((rect_Within.f a2_0 a2_1 a2_2 a2_3 a3_0 a3_1 a3_2 a3_3).bind fun t241 => (warp_Needs.j0 k a1 (!t241) a0_0 a0_1 a0_2 l0_3 a2_0 a2_1 a2_2 a2_3 a3_0 a3_1 a3_2 a3_3)))) else (warp_Needs.j0 k a1 true a0_0 a0_1 a0_2 l0_3 a2_0 a2_1 a2_2 a2_3 a3_0 a3_1 a3_2 a3_3))) else (warp_Needs.j0 k a1 true a0_0 a0_1 a0_2 l0_3 a2_0 a2_1 a2_2 a2_3 a3_0 a3_1 a3_2 a3_3)) = some (r1, r2, r3, r4, r5) := H
    have A16 := Aside0.mk A160
    clear A160
    by_cases c17 : t238 = true
    ·subst c17
     have H1 : ((rect_Valid.f a3_0 a3_1 a3_2 a3_3).bind fun t239 => (if t239 = true then ((rect_Empty.f a2_0 a2_1 a2_2 a2_3).bind fun t240 => (if t240 = true then (warp_Needs.j0 k a1 true a0_0 a0_1 a0_2 l0_3 a2_0 a2_1 a2_2 a2_3 a3_0 a3_1 a3_2 a3_3) else ((rect_Within.f a2_0 a2_1 a2_2 a2_3 a3_0 a3_1 a3_2 a3_3).bind fun t241 => (warp_Needs.j0 k a1 (!t241) a0_0 a0_1 a0_2 l0_3 a2_0 a2_1 a2_2 a2_3 a3_0 a3_1 a3_2 a3_3)))) else (warp_Needs.j0 k a1 true a0_0 a0_1 a0_2 l0_3 a2_0 a2_1 a2_2 a2_3 a3_0 a3_1 a3_2 a3_3))) = some (r1, r2, r3, r4, r5) := by rw [if_pos rfl] at H; exact H
     clear H
     have H := H1
     clear H1
     replace H := Option.bind_eq_some_iff.mp H
     obtain ⟨t239, A180, H⟩ := H
     replace H : (if t239 = true then ((rect_Empty.f a2_0 a2_1 a2_2 a2_3).bind fun t240 => (if t240 = true then (warp_Needs.j0 k a1 true a0_0 a0_1 a0_2 l0_3 a2_0 a2_1 a2_2 a2_3 a3_0 a3_1 a3_2 a3_3) else ((rect_Within.f a2_0 a2_1 a2_2 a2_3 a3_0 a3_1 a3_2 a3_3).bind fun t241 => (warp_Needs.j0 k a1 (!t241) a0_0 a0_1 a0_2 l0_3 a2_0 a2_1 a2_2 a2_3 a3_0 a3_1 a3_2 a3_3)))) else (warp_Needs.j0 k a1 true a0_0 a0_1 a0_2 l0_3 a2_0 a2_1 a2_2 a2_3 a3_0 a3_1 a3_2 a3_3)) = some (r1, r2, r3, r4, r5) := H
     have A18 := Aside0.mk A180
     clear A180
     by_cases c19 : t239 = true
     ·subst c19
      have H1 : ((rect_Empty.f a2_0 a2_1 a2_2 a2_3).bind fun t240 => (if t240 = true then (warp_Needs.j0 k a1 true a0_0 a0_1 a0_2 l0_3 a2_0 a2_1 a2_2 a2_3 a3_0 a3_1 a3_2 a3_3) else ((rect_Within.f a2_0 a2_1 a2_2 a2_3 a3_0 a3_1 a3_2 a3_3).bind fun t241 => (warp_Needs.j0 k a1 (!t241) a0_0 a0_1 a0_2 l0_3 a2_0 a2_1 a2_2 a2_3 a3_0 a3_1 a3_2 a3_3)))) = some (r1, r2, r3, r4, r5) := by rw [if_pos rfl] at H; exact H
      clear H
      have H := H1
      clear H1
      replace H := Option.bind_eq_some_iff.mp H
      obtain ⟨t240, A200, H⟩ := H
      replace H : (if t240 = true then (warp_Needs.j0 k a1 true a0_0 a0_1 a0_2 l0_3 a2_0 a2_1 a2_2 a2_3 a3_0 a3_1 a3_2 a3_3) else ((rect_Within.f a2_0 a2_1 a2_2 a2_3 a3_0 a3_1 a3_2 a3_3).bind fun t241 => (warp_Needs.j0 k a1 (!t241) a0_0 a0_1 a0_2 l0_3 a2_0 a2_1 a2_2 a2_3 a3_0 a3_1 a3_2 a3_3))) = some (r1, r2, r3, r4, r5) := H
      have A20 := Aside0.mk A200
      clear A200
      by_cases c21 : t240 = true
      ·subst c21
       have H1 : (warp_Needs.j0 k a1 true a0_0 a0_1 a0_2 l0_3 a2_0 a2_1 a2_2 a2_3 a3_0 a3_1 a3_2 a3_3) = some (r1, r2, r3, r4, r5) := by rw [if_pos rfl] at H; exact H
       clear H
       have H := H1
       clear H1
       have H' := Aside0.mk H
       clear H
       obtain ⟨hcz22_0, hcz22_1, hcz22_2, hcz22_3, hfz22_0, hfz22_1, hfz22_2, hfz22_3⟩ := zq4 BK233
       go_wp2_with (first | ((with_reducible refine gate_callee (f := 35) rfl ?_); refine goesL_ (some 22) rfl rfl Try.func35 (by kernel_rfl) rfl #[.agg #[.int .i64 a2_0, .int .i64 a2_1, .int .i64 a2_2, .int .i64 a2_3]] rfl (by (try simp only [List.map_toArray, List.map_cons, List.map_nil]); first | done | rfl | (simp only [List.length_drop, List.length_take]; rfl)) ?_; (with_reducible refine (rect_Valid.calls a2_0 a2_1 a2_2 a2_3 true _ A16.out).mono ?_); rintro e w23 ⟨rfl, hb⟩; refine ⟨_, rfl, ?_⟩; replace BK232 := zk BK232 hb; replace BK233 := zk BK233 hb; replace BK234 := zk BK234 hb; replace BK235 := zk BK235 hb; replace HB := zb HB hb; (try clear hb); (try clear hb2); (try clear hk); (try clear hi); obtain ⟨hcz24_0, hcz24_1, hcz24_2, hcz24_3, hfz24_0, hfz24_1, hfz24_2, hfz24_3⟩ := zq4 BK234) | (go_at_call 35; (with_reducible refine (rect_Valid.calls a3_0 a3_1 a3_2 a3_3 true _ A18.out).mono ?_); rintro e w25 ⟨rfl, hb⟩; replace BK232 := zk BK232 hb; replace BK233 := zk BK233 hb; replace BK234 := zk BK234 hb; replace BK235 := zk BK235 hb; replace HB := zb HB hb; (try clear hb); (try clear hb2); (try clear hk); (try clear hi); obtain ⟨hcz26_0, hcz26_1, hcz26_2, hcz26_3, hfz26_0, hfz26_1, hfz26_2, hfz26_3⟩ := zq4 BK233) | (go_at_call 36; (with_reducible refine (rect_Empty.calls a2_0 a2_1 a2_2 a2_3 true _ A20.out).mono ?_); rintro e w27 ⟨rfl, hb⟩; replace BK232 := zk BK232 hb; replace BK233 := zk BK233 hb; replace BK234 := zk BK234 hb; replace BK235 := zk BK235 hb; replace HB := zb HB hb; (try clear hb); (try clear hb2); (try clear hk); (try clear hi)))
       go_meet
       case rel => exact ⟨_, (true), (by first | rfl | (simp; done) | (simp [*]; done)), H', ⟨by first | omega | exact Nat.le_refl _⟩, ⟨by exact zk0 BK232⟩, ⟨by exact zk0 BK233⟩, ⟨by exact zk0 BK234⟩, ⟨by exact zk0 BK235⟩, ⟨by exact zb0 HB⟩⟩
      ·replace c21 := Bool.eq_false_iff.mpr c21
       subst c21
       have H1 : ((rect_Within.f a2_0 a2_1 a2_2 a2_3 a3_0 a3_1 a3_2 a3_3).bind fun t241 => (warp_Needs.j0 k a1 (!t241) a0_0 a0_1 a0_2 l0_3 a2_0 a2_1 a2_2 a2_3 a3_0 a3_1 a3_2 a3_3)) = some (r1, r2, r3, r4, r5) := by rw [if_neg (show ¬ (false = true) by decide)] at H; exact H
       clear H
       have H := H1
       clear H1
       replace H := Option.bind_eq_some_iff.mp H
       obtain ⟨t241, A280, H⟩ := H
       replace H : (warp_Needs.j0 k a1 (!t241) a0_0 a0_1 a0_2 l0_3 a2_0 a2_1 a2_2 a2_3 a3_0 a3_1 a3_2 a3_3) = some (r1, r2, r3, r4, r5) := H
       have A28 := Aside0.mk A280
       clear A280
       have H' := Aside0.mk H
       clear H
       obtain ⟨hcz29_0, hcz29_1, hcz29_2, hcz29_3, hfz29_0, hfz29_1, hfz29_2, hfz29_3⟩ := zq4 BK233
       go_wp2_with (first | ((with_reducible refine gate_callee (f := 35) rfl ?_); refine goesL_ (some 22) rfl rfl Try.func35 (by kernel_rfl) rfl #[.agg #[.int .i64 a2_0, .int .i64 a2_1, .int .i64 a2_2, .int .i64 a2_3]] rfl (by (try simp only [List.map_toArray, List.map_cons, List.map_nil]); first | done | rfl | (simp only [List.length_drop, List.length_take]; rfl)) ?_; (with_reducible refine (rect_Valid.calls a2_0 a2_1 a2_2 a2_3 true _ A16.out).mono ?_); rintro e w30 ⟨rfl, hb⟩; refine ⟨_, rfl, ?_⟩; replace BK232 := zk BK232 hb; replace BK233 := zk BK233 hb; replace BK234 := zk BK234 hb; replace BK235 := zk BK235 hb; replace HB := zb HB hb; (try clear hb); (try clear hb2); (try clear hk); (try clear hi); obtain ⟨hcz31_0, hcz31_1, hcz31_2, hcz31_3, hfz31_0, hfz31_1, hfz31_2, hfz31_3⟩ := zq4 BK234) | (go_at_call 35; (with_reducible refine (rect_Valid.calls a3_0 a3_1 a3_2 a3_3 true _ A18.out).mono ?_); rintro e w32 ⟨rfl, hb⟩; replace BK232 := zk BK232 hb; replace BK233 := zk BK233 hb; replace BK234 := zk BK234 hb; replace BK235 := zk BK235 hb; replace HB := zb HB hb; (try clear hb); (try clear hb2); (try clear hk); (try clear hi); obtain ⟨hcz33_0, hcz33_1, hcz33_2, hcz33_3, hfz33_0, hfz33_1, hfz33_2, hfz33_3⟩ := zq4 BK233) | (go_at_call 36; (with_reducible refine (rect_Empty.calls a2_0 a2_1 a2_2 a2_3 false _ A20.out).mono ?_); rintro e w34 ⟨rfl, hb⟩; replace BK232 := zk BK232 hb; replace BK233 := zk BK233 hb; replace BK234 := zk BK234 hb; replace BK235 := zk BK235 hb; replace HB := zb HB hb; (try clear hb); (try clear hb2); (try clear hk); (try clear hi); obtain ⟨hcz35_0, hcz35_1, hcz35_2, hcz35_3, hfz35_0, hfz35_1, hfz35_2, hfz35_3⟩ := zq4 BK233; obtain ⟨hcz36_0, hcz36_1, hcz36_2, hcz36_3, hfz36_0, hfz36_1, hfz36_2, hfz36_3⟩ := zq4 BK234) | (go_at_call 25; (with_reducible refine (rect_Within.calls a2_0 a2_1 a2_2 a2_3 a3_0 a3_1 a3_2 a3_3 t241 _ A28.out).mono ?_); rintro e w37 ⟨rfl, hb⟩; replace BK232 := zk BK232 hb; replace BK233 := zk BK233 hb; replace BK234 := zk BK234 hb; replace BK235 := zk BK235 hb; replace HB := zb HB hb; (try clear hb); (try clear hb2); (try clear hk); (try clear hi)))
       go_meet
       case rel => exact ⟨_, (!t241), (by first | rfl | (simp; done) | (simp [*]; done)), H', ⟨by first | omega | exact Nat.le_refl _⟩, ⟨by exact zk0 BK232⟩, ⟨by exact zk0 BK233⟩, ⟨by exact zk0 BK234⟩, ⟨by exact zk0 BK235⟩, ⟨by exact zb0 HB⟩⟩
     ·replace c19 := Bool.eq_false_iff.mpr c19
      subst c19
      have H1 : (warp_Needs.j0 k a1 true a0_0 a0_1 a0_2 l0_3 a2_0 a2_1 a2_2 a2_3 a3_0 a3_1 a3_2 a3_3) = some (r1, r2, r3, r4, r5) := by rw [if_neg (show ¬ (false = true) by decide)] at H; exact H
      clear H
      have H := H1
      clear H1
      have H' := Aside0.mk H
      clear H
      obtain ⟨hcz38_0, hcz38_1, hcz38_2, hcz38_3, hfz38_0, hfz38_1, hfz38_2, hfz38_3⟩ := zq4 BK233
      go_wp2_with (first | ((with_reducible refine gate_callee (f := 35) rfl ?_); refine goesL_ (some 22) rfl rfl Try.func35 (by kernel_rfl) rfl #[.agg #[.int .i64 a2_0, .int .i64 a2_1, .int .i64 a2_2, .int .i64 a2_3]] rfl (by (try simp only [List.map_toArray, List.map_cons, List.map_nil]); first | done | rfl | (simp only [List.length_drop, List.length_take]; rfl)) ?_; (with_reducible refine (rect_Valid.calls a2_0 a2_1 a2_2 a2_3 true _ A16.out).mono ?_); rintro e w39 ⟨rfl, hb⟩; refine ⟨_, rfl, ?_⟩; replace BK232 := zk BK232 hb; replace BK233 := zk BK233 hb; replace BK234 := zk BK234 hb; replace BK235 := zk BK235 hb; replace HB := zb HB hb; (try clear hb); (try clear hb2); (try clear hk); (try clear hi); obtain ⟨hcz40_0, hcz40_1, hcz40_2, hcz40_3, hfz40_0, hfz40_1, hfz40_2, hfz40_3⟩ := zq4 BK234) | (go_at_call 35; (with_reducible refine (rect_Valid.calls a3_0 a3_1 a3_2 a3_3 false _ A18.out).mono ?_); rintro e w41 ⟨rfl, hb⟩; replace BK232 := zk BK232 hb; replace BK233 := zk BK233 hb; replace BK234 := zk BK234 hb; replace BK235 := zk BK235 hb; replace HB := zb HB hb; (try clear hb); (try clear hb2); (try clear hk); (try clear hi)))
      go_meet
      case rel => exact ⟨_, (true), (by first | rfl | (simp; done) | (simp [*]; done)), H', ⟨by first | omega | exact Nat.le_refl _⟩, ⟨by exact zk0 BK232⟩, ⟨by exact zk0 BK233⟩, ⟨by exact zk0 BK234⟩, ⟨by exact zk0 BK235⟩, ⟨by exact zb0 HB⟩⟩
    ·replace c17 := Bool.eq_false_iff.mpr c17
     subst c17
     have H1 : (warp_Needs.j0 k a1 true a0_0 a0_1 a0_2 l0_3 a2_0 a2_1 a2_2 a2_3 a3_0 a3_1 a3_2 a3_3) = some (r1, r2, r3, r4, r5) := by rw [if_neg (show ¬ (false = true) by decide)] at H; exact H
     clear H
     have H := H1
     clear H1
     have H' := Aside0.mk H
     clear H
     obtain ⟨hcz42_0, hcz42_1, hcz42_2, hcz42_3, hfz42_0, hfz42_1, hfz42_2, hfz42_3⟩ := zq4 BK233
     go_wp2_with (first | ((with_reducible refine gate_callee (f := 35) rfl ?_); refine goesL_ (some 22) rfl rfl Try.func35 (by kernel_rfl) rfl #[.agg #[.int .i64 a2_0, .int .i64 a2_1, .int .i64 a2_2, .int .i64 a2_3]] rfl (by (try simp only [List.map_toArray, List.map_cons, List.map_nil]); first | done | rfl | (simp only [List.length_drop, List.length_take]; rfl)) ?_; (with_reducible refine (rect_Valid.calls a2_0 a2_1 a2_2 a2_3 false _ A16.out).mono ?_); rintro e w43 ⟨rfl, hb⟩; refine ⟨_, rfl, ?_⟩; replace BK232 := zk BK232 hb; replace BK233 := zk BK233 hb; replace BK234 := zk BK234 hb; replace BK235 := zk BK235 hb; replace HB := zb HB hb; (try clear hb); (try clear hb2); (try clear hk); (try clear hi)))
     go_meet
     case rel => exact ⟨_, (true), (by first | rfl | (simp; done) | (simp [*]; done)), H', ⟨by first | omega | exact Nat.le_refl _⟩, ⟨by exact zk0 BK232⟩, ⟨by exact zk0 BK233⟩, ⟨by exact zk0 BK234⟩, ⟨by exact zk0 BK235⟩, ⟨by exact zb0 HB⟩⟩
   case rest =>
    clear HC9
    try clear c1
    try clear c2
    try clear p2
    try clear c3
    try clear q4
    try clear c6
    try clear c6b0
    try clear c6b1
    try clear c8
    try clear c10
    try clear c17
    try clear c19
    try clear c21
    try clear c34
    try clear c35
    try clear hcz14_0
    try clear hcz14_1
    try clear hcz14_2
    try clear hcz14_3
    try clear hcz22_0
    try clear hcz22_1
    try clear hcz22_2
    try clear hcz22_3
    try clear hcz24_0
    try clear hcz24_1
    try clear hcz24_2
    try clear hcz24_3
    try clear hcz26_0
    try clear hcz26_1
    try clear hcz26_2
    try clear hcz26_3
    try clear hcz29_0
    try clear hcz29_1
    try clear hcz29_2
    try clear hcz29_3
    try clear hcz31_0
    try clear hcz31_1
    try clear hcz31_2
    try clear hcz31_3
    try clear hcz33_0
    try clear hcz33_1
    try clear hcz33_2
    try clear hcz33_3
    try clear hcz35_0
    try clear hcz35_1
    try clear hcz35_2
    try clear hcz35_3
    try clear hcz36_0
    try clear hcz36_1
    try clear hcz36_2
    try clear hcz36_3
    try clear hcz38_0
    try clear hcz38_1
    try clear hcz38_2
    try clear hcz38_3
    try clear hcz40_0
    try clear hcz40_1
    try clear hcz40_2
    try clear hcz40_3
    try clear hcz42_0
    try clear hcz42_1
    try clear hcz42_2
    try clear hcz42_3
    try clear hfz14_0
    try clear hfz14_1
    try clear hfz14_2
    try clear hfz14_3
    try clear hfz22_0
    try clear hfz22_1
    try clear hfz22_2
    try clear hfz22_3
    try clear hfz24_0
    try clear hfz24_1
    try clear hfz24_2
    try clear hfz24_3
    try clear hfz26_0
    try clear hfz26_1
    try clear hfz26_2
    try clear hfz26_3
    try clear hfz29_0
    try clear hfz29_1
    try clear hfz29_2
    try clear hfz29_3
    try clear hfz31_0
    try clear hfz31_1
    try clear hfz31_2
    try clear hfz31_3
    try clear hfz33_0
    try clear hfz33_1
    try clear hfz33_2
    try clear hfz33_3
    try clear hfz35_0
    try clear hfz35_1
    try clear hfz35_2
    try clear hfz35_3
    try clear hfz36_0
    try clear hfz36_1
    try clear hfz36_2
    try clear hfz36_3
    try clear hfz38_0
    try clear hfz38_1
    try clear hfz38_2
    try clear hfz38_3
    try clear hfz40_0
    try clear hfz40_1
    try clear hfz40_2
    try clear hfz40_3
    try clear hfz42_0
    try clear hfz42_1
    try clear hfz42_2
    try clear hfz42_3
    obtain ⟨kq, x38_8, rfl, HA, HJ8, BK232, BK233, BK234, BK235, HB⟩ := hcut
    cases kq with
    | zero => exact absurd HA.out (by simp [warp_Needs.j0])
    | succ kj8 =>
     have H := HA.out
     clear HA
     simp only [warp_Needs.j0] at H
     by_cases c44 : x38_8 = true
     ·subst c44
      have H1 : (some (0, 0, 0, 0, 2)) = some (r1, r2, r3, r4, r5) := by rw [if_pos rfl] at H; exact H
      clear H
      have H := H1
      clear H1
      simp only [Option.some.injEq, Prod.mk.injEq] at H
      obtain ⟨rfl, rfl, rfl, rfl, rfl⟩ := H
      have hnb45 := NB235_232.out
      have hnc45 := NB232_235.out
      have hnb46 := NB235_233.out
      have hnc46 := NB233_235.out
      have hnb47 := NB235_234.out
      have hnc47 := NB234_235.out
      obtain ⟨hcz48_0, hcz48_1, hcz48_2, hcz48_3, hfz48_0, hfz48_1, hfz48_2, hfz48_3⟩ := zq4 BK235
      go_wp2
      refine bodyPost_ret (results_ct rfl _ _ gb235 34 #[.int .i64 0, .int .i64 0, .int .i64 0, .int .i64 0] (0, 0) _ rfl (by exact zp BK235 rfl) Try.underlying34 rfl (by kernel_rfl)) rfl ?_
      exact ⟨by first | rfl | (simp [errW_none, errW_some] <;> rfl) | (simp [*, errW_none, errW_some] <;> rfl), by exact zbo HB GE235⟩
     ·replace c44 := Bool.eq_false_iff.mpr c44
      subst c44
      have H1 : ((warp_Reach.f kj8 a0_0 a0_1 a0_2 l0_3).bind fun t242 => ((kernel_Support.f a1).bind fun t243 => ((rect_Grow.f kj8 a2_0 a2_1 a2_2 a2_3 (wrap64 ((wrap64 (t242 + t243)) + 1))).bind fun bt244 => ((rect_Meet.f bt244.1 bt244.2.1 bt244.2.2.1 bt244.2.2.2 a3_0 a3_1 a3_2 a3_3).bind fun bt248 => (some (bt248.1, bt248.2.1, bt248.2.2.1, bt248.2.2.2, 0)))))) = some (r1, r2, r3, r4, r5) := by rw [if_neg (show ¬ (false = true) by decide)] at H; exact H
      clear H
      have H := H1
      clear H1
      replace H := Option.bind_eq_some_iff.mp H
      obtain ⟨t242, A490, H⟩ := H
      replace H : ((kernel_Support.f a1).bind fun t243 => ((rect_Grow.f kj8 a2_0 a2_1 a2_2 a2_3 (wrap64 ((wrap64 (t242 + t243)) + 1))).bind fun bt244 => ((rect_Meet.f bt244.1 bt244.2.1 bt244.2.2.1 bt244.2.2.2 a3_0 a3_1 a3_2 a3_3).bind fun bt248 => (some (bt248.1, bt248.2.1, bt248.2.2.1, bt248.2.2.2, 0))))) = some (r1, r2, r3, r4, r5) := H
      have A49 := Aside0.mk A490
      clear A490
      replace H := Option.bind_eq_some_iff.mp H
      obtain ⟨t243, A500, H⟩ := H
      replace H : ((rect_Grow.f kj8 a2_0 a2_1 a2_2 a2_3 (wrap64 ((wrap64 (t242 + t243)) + 1))).bind fun bt244 => ((rect_Meet.f bt244.1 bt244.2.1 bt244.2.2.1 bt244.2.2.2 a3_0 a3_1 a3_2 a3_3).bind fun bt248 => (some (bt248.1, bt248.2.1, bt248.2.2.1, bt248.2.2.2, 0)))) = some (r1, r2, r3, r4, r5) := H
      have A50 := Aside0.mk A500
      clear A500
      replace H := Option.bind_eq_some_iff.mp H
      obtain ⟨⟨t244, t245, t246, t247⟩, A510, H⟩ := H
      replace H : ((rect_Meet.f t244 t245 t246 t247 a3_0 a3_1 a3_2 a3_3).bind fun bt248 => (some (bt248.1, bt248.2.1, bt248.2.2.1, bt248.2.2.2, 0))) = some (r1, r2, r3, r4, r5) := H
      have A51 := Aside0.mk A510
      clear A510
      replace H := Option.bind_eq_some_iff.mp H
      obtain ⟨⟨t248, t249, t250, t251⟩, A520, H⟩ := H
      replace H : (some (t248, t249, t250, t251, 0)) = some (r1, r2, r3, r4, r5) := H
      have A52 := Aside0.mk A520
      clear A520
      simp only [Option.some.injEq, Prod.mk.injEq] at H
      obtain ⟨rfl, rfl, rfl, rfl, rfl⟩ := H
      try go_wp2
      replace BK232 := zkd BK232
      replace BK233 := zkd BK233
      replace BK234 := zkd BK234
      replace BK235 := zkd BK235
      replace HB := zbd HB
      refine start_ (n := 12) (S := fun w' => w'.cell? ⟨gb233, 0, none⟩ = some (.int .i64 a2_0) ∧ w'.cell? ⟨gb233, 1, none⟩ = some (.int .i64 a2_1) ∧ w'.cell? ⟨gb233, 2, none⟩ = some (.int .i64 a2_2) ∧ w'.cell? ⟨gb233, 3, none⟩ = some (.int .i64 a2_3) ∧ w'.cell? ⟨gb232, 0, none⟩ = some (.int .i64 a0_0) ∧ w'.cell? ⟨gb232, 1, none⟩ = some (.int .i64 a0_1) ∧ w'.cell? ⟨gb232, 2, none⟩ = some (.int .i64 a0_2) ∧ w'.cell? ⟨gb232, 3, none⟩ = some (.slice A0_3 l0_3.length c0_3) ∧ w'.cell? ⟨gb234, 0, none⟩ = some (.int .i64 a3_0) ∧ w'.cell? ⟨gb234, 1, none⟩ = some (.int .i64 a3_1) ∧ w'.cell? ⟨gb234, 2, none⟩ = some (.int .i64 a3_2) ∧ w'.cell? ⟨gb234, 3, none⟩ = some (.int .i64 a3_3)) (ds := []) (bs 12 0) (by kernel_rfl) rfl rfl ⟨(blk_cell BK233.out 0).trans rfl, (blk_cell BK233.out 1).trans rfl, (blk_cell BK233.out 2).trans rfl, (blk_cell BK233.out 3).trans rfl, (blk_cell BK232.out 0).trans rfl, (blk_cell BK232.out 1).trans rfl, (blk_cell BK232.out 2).trans rfl, (blk_cell BK232.out 3).trans rfl, (blk_cell BK234.out 0).trans rfl, (blk_cell BK234.out 1).trans rfl, (blk_cell BK234.out 2).trans rfl, (blk_cell BK234.out 3).trans rfl⟩ (fun hHeld => ?_); refine with_tabW warp_Needs.tab8 warp_Needs.bits8 (fun HT_ HW_ => ?_)
      generalize wc.drew = w53 at BK232 BK233 BK234 BK235 HB hHeld ⊢
      refine pure_ (i := 3) (N := some 43) (v := ?_) (a' := ?_) (bs 12 8) rfl rfl (any_of HT_.out (by kernel_rfl)) (fun _ _ _ h => h) (Or.inl ⟨by rfl, ?_⟩) ?_ ?_
      rotate_left
      ·intro w'
       go_simp
       with_reducible rfl
      rotate_left
      ·simp only [Act.put, sA, sB, sC, i64_w, i32_w]
       rfl
      refine take_ (i := 0) (N := some 40) (v := ?_) (a' := ?_) (bs 12 9) rfl rfl (take_ofW HT_.out HW_.out (by kernel_rfl)) (fun _ _ _ h => h) (Or.inl ⟨by rfl, ?_⟩) hHeld ?_ ?_
      rotate_left
      ·rintro w' ⟨s0, s1, s2, s3, s4, s5, s6, s7, s8, s9, s10, s11⟩
       go_simp
       with_reducible rfl
      rotate_left
      ·simp only [Act.put, sA, sB, sC, i64_w, i32_w]
       rfl
      refine take_ (i := 1) (N := some 41) (v := ?_) (a' := ?_) (bs 12 11) rfl rfl (take_ofW HT_.out HW_.out (by kernel_rfl)) (fun _ _ _ h => h) (Or.inl ⟨by rfl, ?_⟩) hHeld ?_ ?_
      rotate_left
      ·rintro w' ⟨s0, s1, s2, s3, s4, s5, s6, s7, s8, s9, s10, s11⟩
       go_simp
       with_reducible rfl
      rotate_left
      ·simp only [Act.put, sA, sB, sC, i64_w, i32_w]
       rfl
      refine take_ (i := 8) (N := some 48) (v := ?_) (a' := ?_) (bs 12 267) rfl rfl (take_ofW HT_.out HW_.out (by kernel_rfl)) (fun _ _ _ h => h) (Or.inl ⟨by rfl, ?_⟩) hHeld ?_ ?_
      rotate_left
      ·rintro w' ⟨s0, s1, s2, s3, s4, s5, s6, s7, s8, s9, s10, s11⟩
       go_simp
       with_reducible rfl
      rotate_left
      ·simp only [Act.put, sA, sB, sC, i64_w, i32_w]
       rfl
      refine one_ (i := 2) (N := some 42) (bs 12 271) rfl rfl (one_of HT_.out (by kernel_rfl)) (by decide) (fun K hK => ?_)
      refine goes_ Try.func14 (by kernel_rfl) rfl #[.agg #[.int .i64 a0_0, .int .i64 a0_1, .int .i64 a0_2, .slice A0_3 l0_3.length c0_3]] (by rfl) rfl rfl (by (try simp only [List.map_toArray, List.map_cons, List.map_nil]); first | done | rfl | (simp only [List.length_drop, List.length_take]; rfl)) ?_
      with_reducible refine (warp_Reach.calls kj8 a0_0 a0_1 a0_2 _ _ l0_3 t242 _ ?side1 ?side2 A49.out).mono ?_
      (case side1 => repeat (first | exact (Kd.C_below HR0_3.out HB.out) | (with_reducible refine Kd.C_alloc ?_ _) | (with_reducible refine Kd.C_drewN ?_ _) | (with_reducible refine Kd.C_drew ?_)))
      (case side2 => exact HC0_3.out)
      rintro e w54 ⟨rfl, hb⟩
      refine ⟨_, rfl, ?_⟩
      replace BK232 := zk BK232 hb
      replace BK233 := zk BK233 hb
      replace BK234 := zk BK234 hb
      replace BK235 := zk BK235 hb
      replace HB := zb HB hb
      (try clear hb)
      (try clear hb2)
      (try clear hk)
      (try clear hi)
      refine hK.out _ _ ⟨(blk_cell BK233.out 0).trans rfl, (blk_cell BK233.out 1).trans rfl, (blk_cell BK233.out 2).trans rfl, (blk_cell BK233.out 3).trans rfl, (blk_cell BK232.out 0).trans rfl, (blk_cell BK232.out 1).trans rfl, (blk_cell BK232.out 2).trans rfl, (blk_cell BK232.out 3).trans rfl, (blk_cell BK234.out 0).trans rfl, (blk_cell BK234.out 1).trans rfl, (blk_cell BK234.out 2).trans rfl, (blk_cell BK234.out 3).trans rfl⟩ (fun hHeld => ?_)
      clear hK K
      refine norm_ (a' := ?_) ?_ ?_
      rotate_left
      ·show Act.put _ (some 42) _ = _
       simp only [Act.put, sA, sB, sC, i64_w, i32_w]
       rfl
      refine one_ (i := 4) (N := some 44) (bs 12 287) rfl rfl (one_of HT_.out (by kernel_rfl)) (by decide) (fun K hK => ?_)
      refine goes_ Try.func39 (by kernel_rfl) rfl #[.int .i64 a1] (by rfl) rfl rfl (by (try simp only [List.map_toArray, List.map_cons, List.map_nil]); first | done | rfl | (simp only [List.length_drop, List.length_take]; rfl)) ?_
      with_reducible refine (kernel_Support.calls a1 t243 _ A50.out).mono ?_
      rintro e w' ⟨rfl, ⟨nd, rfl⟩⟩
      refine ⟨_, rfl, ?_⟩
      refine hK.out _ _ ⟨(blk_cell BK233.out 0).trans rfl, (blk_cell BK233.out 1).trans rfl, (blk_cell BK233.out 2).trans rfl, (blk_cell BK233.out 3).trans rfl, (blk_cell BK232.out 0).trans rfl, (blk_cell BK232.out 1).trans rfl, (blk_cell BK232.out 2).trans rfl, (blk_cell BK232.out 3).trans rfl, (blk_cell BK234.out 0).trans rfl, (blk_cell BK234.out 1).trans rfl, (blk_cell BK234.out 2).trans rfl, (blk_cell BK234.out 3).trans rfl⟩ (fun hHeld => ?_)
      clear hK K
      refine norm_ (a' := ?_) ?_ ?_
      rotate_left
      ·show Act.put _ (some 44) _ = _
       simp only [Act.put, sA, sB, sC, i64_w, i32_w]
       rfl
      refine pure_ (i := 5) (N := some 45) (v := ?_) (a' := ?_) (bs 12 319) rfl rfl (any_of HT_.out (by kernel_rfl)) (fun _ _ _ h => h) (Or.inl ⟨by rfl, ?_⟩) ?_ ?_
      rotate_left
      ·intro w'
       go_simp
       with_reducible rfl
      rotate_left
      ·simp only [Act.put, sA, sB, sC, i64_w, i32_w]
       rfl
      refine pure_ (i := 6) (N := some 46) (v := ?_) (a' := ?_) (bs 12 383) rfl rfl (any_of HT_.out (by kernel_rfl)) (fun _ _ _ h => h) (Or.inl ⟨by rfl, ?_⟩) ?_ ?_
      rotate_left
      ·intro w'
       go_simp
       with_reducible rfl
      rotate_left
      ·simp only [Act.put, sA, sB, sC, i64_w, i32_w]
       rfl
      refine one_ (i := 7) (N := some 47) (bs 12 511) rfl rfl (one_of HT_.out (by kernel_rfl)) (by decide) (fun K hK => ?_)
      refine goes_ Try.func38 (by kernel_rfl) rfl #[.agg #[.int .i64 a2_0, .int .i64 a2_1, .int .i64 a2_2, .int .i64 a2_3], .int .i64 (wrap64 ((wrap64 (t242 + t243)) + 1))] (by rfl) rfl rfl (by (try simp only [List.map_toArray, List.map_cons, List.map_nil]); first | done | rfl | (simp only [List.length_drop, List.length_take]; rfl)) ?_
      with_reducible refine (rect_Grow.calls kj8 a2_0 a2_1 a2_2 a2_3 (wrap64 ((wrap64 (t242 + t243)) + 1)) t244 t245 t246 t247 _ A51.out).mono ?_
      rintro e w55 ⟨rfl, hb⟩
      refine ⟨_, rfl, ?_⟩
      replace BK232 := zk BK232 hb
      replace BK233 := zk BK233 hb
      replace BK234 := zk BK234 hb
      replace BK235 := zk BK235 hb
      replace HB := zb HB hb
      (try clear hb)
      (try clear hb2)
      (try clear hk)
      (try clear hi)
      refine hK.out _ _ ⟨(blk_cell BK233.out 0).trans rfl, (blk_cell BK233.out 1).trans rfl, (blk_cell BK233.out 2).trans rfl, (blk_cell BK233.out 3).trans rfl, (blk_cell BK232.out 0).trans rfl, (blk_cell BK232.out 1).trans rfl, (blk_cell BK232.out 2).trans rfl, (blk_cell BK232.out 3).trans rfl, (blk_cell BK234.out 0).trans rfl, (blk_cell BK234.out 1).trans rfl, (blk_cell BK234.out 2).trans rfl, (blk_cell BK234.out 3).trans rfl⟩ (fun hHeld => ?_)
      clear hK K
      refine norm_ (a' := ?_) ?_ ?_
      rotate_left
      ·show Act.put _ (some 47) _ = _
       simp only [Act.put, sA, sB, sC, i64_w, i32_w]
       rfl
      refine one_ (i := 9) (N := some 49) (bs 12 1023) rfl rfl (one_of HT_.out (by kernel_rfl)) (by decide) (fun K hK => ?_)
      refine goes_ Try.func37 (by kernel_rfl) rfl #[.agg #[.int .i64 t244, .int .i64 t245, .int .i64 t246, .int .i64 t247], .agg #[.int .i64 a3_0, .int .i64 a3_1, .int .i64 a3_2, .int .i64 a3_3]] (by rfl) rfl rfl (by (try simp only [List.map_toArray, List.map_cons, List.map_nil]); first | done | rfl | (simp only [List.length_drop, List.length_take]; rfl)) ?_
      with_reducible refine (rect_Meet.calls t244 t245 t246 t247 a3_0 a3_1 a3_2 a3_3 t248 t249 t250 t251 _ A52.out).mono ?_
      rintro e w56 ⟨rfl, hb⟩
      refine ⟨_, rfl, ?_⟩
      replace BK232 := zk BK232 hb
      replace BK233 := zk BK233 hb
      replace BK234 := zk BK234 hb
      replace BK235 := zk BK235 hb
      replace HB := zb HB hb
      (try clear hb)
      (try clear hb2)
      (try clear hk)
      (try clear hi)
      refine hK.out _ _ ⟨(blk_cell BK233.out 0).trans rfl, (blk_cell BK233.out 1).trans rfl, (blk_cell BK233.out 2).trans rfl, (blk_cell BK233.out 3).trans rfl, (blk_cell BK232.out 0).trans rfl, (blk_cell BK232.out 1).trans rfl, (blk_cell BK232.out 2).trans rfl, (blk_cell BK232.out 3).trans rfl, (blk_cell BK234.out 0).trans rfl, (blk_cell BK234.out 1).trans rfl, (blk_cell BK234.out 2).trans rfl, (blk_cell BK234.out 3).trans rfl⟩ (fun hHeld => ?_)
      clear hK K
      refine norm_ (a' := ?_) ?_ ?_
      rotate_left
      ·show Act.put _ (some 49) _ = _
       simp only [Act.put, sA, sB, sC, i64_w, i32_w]
       rfl
      refine one_ (i := 10) (N := none) (bs 12 2047) rfl rfl (one_of HT_.out (by kernel_rfl)) (by decide) (fun K hK => ?_)
      have hs57 : w56.cell? ⟨gb235, 0, none⟩ = some (.int .i64 0) := (blk_cell BK235.out 0).trans rfl
      have hfs57 := blk_frozen BK235.out 0
      have hns57_0 := NB232_235.out
      have hns57_1 := NB233_235.out
      have hns57_2 := NB234_235.out
      have hms57_0 := NB235_232.out
      have hms57_1 := NB235_233.out
      have hms57_2 := NB235_234.out
      have hs58 : w56.cell? ⟨gb235, 1, none⟩ = some (.int .i64 0) := (blk_cell BK235.out 1).trans rfl
      have hfs58 := blk_frozen BK235.out 1
      have hns58_0 := NB232_235.out
      have hns58_1 := NB233_235.out
      have hns58_2 := NB234_235.out
      have hms58_0 := NB235_232.out
      have hms58_1 := NB235_233.out
      have hms58_2 := NB235_234.out
      have hs59 : w56.cell? ⟨gb235, 2, none⟩ = some (.int .i64 0) := (blk_cell BK235.out 2).trans rfl
      have hfs59 := blk_frozen BK235.out 2
      have hns59_0 := NB232_235.out
      have hns59_1 := NB233_235.out
      have hns59_2 := NB234_235.out
      have hms59_0 := NB235_232.out
      have hms59_1 := NB235_233.out
      have hms59_2 := NB235_234.out
      have hs60 : w56.cell? ⟨gb235, 3, none⟩ = some (.int .i64 0) := (blk_cell BK235.out 3).trans rfl
      have hfs60 := blk_frozen BK235.out 3
      have hns60_0 := NB232_235.out
      have hns60_1 := NB233_235.out
      have hns60_2 := NB234_235.out
      have hms60_0 := NB235_232.out
      have hms60_1 := NB235_233.out
      have hms60_2 := NB235_234.out
      refine skip_ (w1 := ?_) (by rfl) rfl ?_ ?_
      rotate_left
      ·go_simp
       rfl
      refine hK.out _ _ ⟨((cell_far (p := ⟨gb235, _, none⟩) NB233_235.out _).trans (((cell_far (p := ⟨gb235, _, none⟩) NB233_235.out _).trans (((cell_far (p := ⟨gb235, _, none⟩) NB233_235.out _).trans (((cell_far (p := ⟨gb235, _, none⟩) NB233_235.out _).trans (hHeld.1)))))))), ((cell_far (p := ⟨gb235, _, none⟩) NB233_235.out _).trans (((cell_far (p := ⟨gb235, _, none⟩) NB233_235.out _).trans (((cell_far (p := ⟨gb235, _, none⟩) NB233_235.out _).trans (((cell_far (p := ⟨gb235, _, none⟩) NB233_235.out _).trans (hHeld.2.1)))))))), ((cell_far (p := ⟨gb235, _, none⟩) NB233_235.out _).trans (((cell_far (p := ⟨gb235, _, none⟩) NB233_235.out _).trans (((cell_far (p := ⟨gb235, _, none⟩) NB233_235.out _).trans (((cell_far (p := ⟨gb235, _, none⟩) NB233_235.out _).trans (hHeld.2.2.1)))))))), ((cell_far (p := ⟨gb235, _, none⟩) NB233_235.out _).trans (((cell_far (p := ⟨gb235, _, none⟩) NB233_235.out _).trans (((cell_far (p := ⟨gb235, _, none⟩) NB233_235.out _).trans (((cell_far (p := ⟨gb235, _, none⟩) NB233_235.out _).trans (hHeld.2.2.2.1)))))))), ((cell_far (p := ⟨gb235, _, none⟩) NB232_235.out _).trans (((cell_far (p := ⟨gb235, _, none⟩) NB232_235.out _).trans (((cell_far (p := ⟨gb235, _, none⟩) NB232_235.out _).trans (((cell_far (p := ⟨gb235, _, none⟩) NB232_235.out _).trans (hHeld.2.2.2.2.1)))))))), ((cell_far (p := ⟨gb235, _, none⟩) NB232_235.out _).trans (((cell_far (p := ⟨gb235, _, none⟩) NB232_235.out _).trans (((cell_far (p := ⟨gb235, _, none⟩) NB232_235.out _).trans (((cell_far (p := ⟨gb235, _, none⟩) NB232_235.out _).trans (hHeld.2.2.2.2.2.1)))))))), ((cell_far (p := ⟨gb235, _, none⟩) NB232_235.out _).trans (((cell_far (p := ⟨gb235, _, none⟩) NB232_235.out _).trans (((cell_far (p := ⟨gb235, _, none⟩) NB232_235.out _).trans (((cell_far (p := ⟨gb235, _, none⟩) NB232_235.out _).trans (hHeld.2.2.2.2.2.2.1)))))))), ((cell_far (p := ⟨gb235, _, none⟩) NB232_235.out _).trans (((cell_far (p := ⟨gb235, _, none⟩) NB232_235.out _).trans (((cell_far (p := ⟨gb235, _, none⟩) NB232_235.out _).trans (((cell_far (p := ⟨gb235, _, none⟩) NB232_235.out _).trans (hHeld.2.2.2.2.2.2.2.1)))))))), ((cell_far (p := ⟨gb235, _, none⟩) NB234_235.out _).trans (((cell_far (p := ⟨gb235, _, none⟩) NB234_235.out _).trans (((cell_far (p := ⟨gb235, _, none⟩) NB234_235.out _).trans (((cell_far (p := ⟨gb235, _, none⟩) NB234_235.out _).trans (hHeld.2.2.2.2.2.2.2.2.1)))))))), ((cell_far (p := ⟨gb235, _, none⟩) NB234_235.out _).trans (((cell_far (p := ⟨gb235, _, none⟩) NB234_235.out _).trans (((cell_far (p := ⟨gb235, _, none⟩) NB234_235.out _).trans (((cell_far (p := ⟨gb235, _, none⟩) NB234_235.out _).trans (hHeld.2.2.2.2.2.2.2.2.2.1)))))))), ((cell_far (p := ⟨gb235, _, none⟩) NB234_235.out _).trans (((cell_far (p := ⟨gb235, _, none⟩) NB234_235.out _).trans (((cell_far (p := ⟨gb235, _, none⟩) NB234_235.out _).trans (((cell_far (p := ⟨gb235, _, none⟩) NB234_235.out _).trans (hHeld.2.2.2.2.2.2.2.2.2.2.1)))))))), ((cell_far (p := ⟨gb235, _, none⟩) NB234_235.out _).trans (((cell_far (p := ⟨gb235, _, none⟩) NB234_235.out _).trans (((cell_far (p := ⟨gb235, _, none⟩) NB234_235.out _).trans (((cell_far (p := ⟨gb235, _, none⟩) NB234_235.out _).trans (hHeld.2.2.2.2.2.2.2.2.2.2.2))))))))⟩ (fun hHeld => ?_)
      clear hK K
      refine pure_ (i := 11) (N := some 9) (v := ?_) (a' := ?_) (bs 12 4095) rfl rfl (any_of HT_.out (by kernel_rfl)) (fun _ _ _ h => h) (Or.inl ⟨by rfl, ?_⟩) ?_ ?_
      rotate_left
      ·intro w'
       go_simp
       with_reducible rfl
      rotate_left
      ·simp only [Act.put, sA, sB, sC, i64_w, i32_w]
       rfl
      refine done_ (done_of HT_.out (by kernel_rfl)) ?_
      try go_wp2
      refine bodyPost_ret (results_ct rfl _ _ gb235 34 #[.int .i64 t248, .int .i64 t249, .int .i64 t250, .int .i64 t251] (0, 0) _ rfl (by exact zp BK235 rfl) Try.underlying34 rfl (by kernel_rfl)) rfl ?_
      exact ⟨by first | rfl | (simp [errW_none, errW_some] <;> rfl) | (simp [*, errW_none, errW_some] <;> rfl), by exact zbo HB GE235⟩
  ·replace c8 := Bool.eq_false_iff.mpr c8
   subst c8
   have H1 : (some (0, 0, 0, 0, 8)) = some (r1, r2, r3, r4, r5) := by rw [if_neg (show ¬ (false = true) by decide)] at H; exact H
   clear H
   have H := H1
   clear H1
   simp only [Option.some.injEq, Prod.mk.injEq] at H
   obtain ⟨rfl, rfl, rfl, rfl, rfl⟩ := H
   go_enter Try.func17, Try.ntmps17
   go_wp2_with (first | ((with_reducible refine gate_dst (N := 4) rfl ?_); refine box_event ?hg (N := 4) ?hd (cs := #[.int .i64 a0_0, .int .i64 a0_1, .int .i64 a0_2, .slice A0_3 l0_3.length c0_3]) (t := 24) ?hr ?_; (case hd => rfl); (case hg => rfl); (case hr => first | (go_simp; done) | (go_simp; rfl)); intro gb232 hg w61 hbox hb; have GW232 := zg HB hg; have GE232 := zg HB hg; have n0_ := Aside0.mk (hbox); replace HB := zb HB hb; have BK232 := n0_; clear n0_; clear hb hbox hg) | ((with_reducible refine gate_dst (N := 6) rfl ?_); refine box_event ?hg (N := 6) ?hd (cs := #[.int .i64 a2_0, .int .i64 a2_1, .int .i64 a2_2, .int .i64 a2_3]) (t := 34) ?hr ?_; (case hd => rfl); (case hg => rfl); (case hr => first | (go_simp; done) | (go_simp; rfl)); intro gb233 hg w62 hbox hb; have GW233 := zg HB hg; have GE233 := zg HB hg; have NB232_233 := zn BK232 hg; have NB233_232 := zn' BK232 hg; have n0_ := Aside0.mk (hbox); replace BK232 := zk BK232 hb; replace HB := zb HB hb; have BK233 := n0_; clear n0_; clear hb hbox hg) | ((with_reducible refine gate_dst (N := 7) rfl ?_); refine box_event ?hg (N := 7) ?hd (cs := #[.int .i64 a3_0, .int .i64 a3_1, .int .i64 a3_2, .int .i64 a3_3]) (t := 34) ?hr ?_; (case hd => rfl); (case hg => rfl); (case hr => first | (go_simp; done) | (go_simp; rfl)); intro gb234 hg w63 hbox hb; have GW234 := zg HB hg; have GE234 := zg HB hg; have NB232_234 := zn BK232 hg; have NB234_232 := zn' BK232 hg; have NB233_234 := zn BK233 hg; have NB234_233 := zn' BK233 hg; have n0_ := Aside0.mk (hbox); replace BK232 := zk BK232 hb; replace BK233 := zk BK233 hb; replace HB := zb HB hb; have BK234 := n0_; clear n0_; clear hb hbox hg) | ((with_reducible refine gate_dst (N := 8) rfl ?_); refine box_event ?hg (N := 8) ?hd (cs := #[.int .i64 0, .int .i64 0, .int .i64 0, .int .i64 0]) (t := 34) ?hr ?_; (case hd => rfl); (case hg => rfl); (case hr => first | (go_simp; done) | (go_simp; rfl)); intro gb235 hg w64 hbox hb; have GW235 := zg HB hg; have GE235 := zg HB hg; have NB232_235 := zn BK232 hg; have NB235_232 := zn' BK232 hg; have NB233_235 := zn BK233 hg; have NB235_233 := zn' BK233 hg; have NB234_235 := zn BK234 hg; have NB235_234 := zn' BK234 hg; have n0_ := Aside0.mk (hbox); replace BK232 := zk BK232 hb; replace BK233 := zk BK233 hb; replace BK234 := zk BK234 hb; replace HB := zb HB hb; have BK235 := n0_; clear n0_; clear hb hbox hg; have hnb65 := NB232_233.out; have hnc65 := NB233_232.out; have hnb66 := NB232_234.out; have hnc66 := NB234_232.out; have hnb67 := NB232_235.out; have hnc67 := NB235_232.out; obtain ⟨hcz68_0, hcz68_1, hcz68_2, hcz68_3, hfz68_0, hfz68_1, hfz68_2, hfz68_3⟩ := zq4 BK232) | ((with_reducible refine gate_callee (f := 10) rfl ?_); refine goesL_ (some 12) rfl rfl Try.func10 (by kernel_rfl) rfl #[.agg #[.int .i64 a0_0, .int .i64 a0_1, .int .i64 a0_2, .slice A0_3 l0_3.length c0_3]] rfl (by (try simp only [List.map_toArray, List.map_cons, List.map_nil]); first | done | rfl | (simp only [List.length_drop, List.length_take]; rfl)) ?_; (with_reducible refine (warp_Check.calls k a0_0 a0_1 a0_2 _ _ l0_3 t236 _ ?side1 ?side2 A5.out).mono ?_); (case side1 => repeat (first | exact (Kd.C_below HR0_3.out HB.out) | (with_reducible refine Kd.C_alloc ?_ _) | (with_reducible refine Kd.C_drewN ?_ _) | (with_reducible refine Kd.C_drew ?_))); (case side2 => exact HC0_3.out); rintro e w69 ⟨rfl, hb⟩; refine ⟨_, rfl, ?_⟩; replace BK232 := zk BK232 hb; replace BK233 := zk BK233 hb; replace BK234 := zk BK234 hb; replace BK235 := zk BK235 hb; replace HB := zb HB hb; (try clear hb); (try clear hb2); (try clear hk); (try clear hi)) | ((with_reducible refine gate_callee (f := 34) rfl ?_); refine goesL_ (some 18) rfl rfl Try.func34 (by kernel_rfl) rfl #[.int .i64 a1] rfl (by (try simp only [List.map_toArray, List.map_cons, List.map_nil]); first | done | rfl | (simp only [List.length_drop, List.length_take]; rfl)) ?_; (with_reducible refine (kernel_Valid.calls a1 false _ A7.out).mono ?_); rintro e w' ⟨rfl, ⟨nd, rfl⟩⟩; refine ⟨_, rfl, ?_⟩; (try (rw [drewN_self w69]; generalize hq_ : World.drewN w69 _ = w69; have n0_ : Aside0 (w69.heap[gb232]? = some (.cells #[.int .i64 a0_0, .int .i64 a0_1, .int .i64 a0_2, .slice A0_3 l0_3.length c0_3] 24 (0, 0))) := ⟨by rw [← hq_]; exact (by exact zk0 BK232)⟩; have n1_ : Aside0 (w69.heap[gb233]? = some (.cells #[.int .i64 a2_0, .int .i64 a2_1, .int .i64 a2_2, .int .i64 a2_3] 34 (0, 0))) := ⟨by rw [← hq_]; exact (by exact zk0 BK233)⟩; have n2_ : Aside0 (w69.heap[gb234]? = some (.cells #[.int .i64 a3_0, .int .i64 a3_1, .int .i64 a3_2, .int .i64 a3_3] 34 (0, 0))) := ⟨by rw [← hq_]; exact (by exact zk0 BK234)⟩; have n3_ : Aside0 (w69.heap[gb235]? = some (.cells #[.int .i64 0, .int .i64 0, .int .i64 0, .int .i64 0] 34 (0, 0))) := ⟨by rw [← hq_]; exact (by exact zk0 BK235)⟩; have n4_ : Aside0 (Below w.heap.size w w69) := ⟨by rw [← hq_]; exact (by exact zb0 HB)⟩; clear BK232 BK233 BK234 BK235 HB hq_; have BK232 := n0_; have BK233 := n1_; have BK234 := n2_; have BK235 := n3_; have HB := n4_; clear n0_ n1_ n2_ n3_ n4_)); have hnb70 := NB235_233.out; have hnc70 := NB233_235.out; have hnb71 := NB235_234.out; have hnc71 := NB234_235.out; obtain ⟨hcz72_0, hcz72_1, hcz72_2, hcz72_3, hfz72_0, hfz72_1, hfz72_2, hfz72_3⟩ := zq4 BK235))
   refine bodyPost_ret (results_ct rfl _ _ gb235 34 #[.int .i64 0, .int .i64 0, .int .i64 0, .int .i64 0] (0, 0) _ rfl (by exact zp BK235 rfl) Try.underlying34 rfl (by kernel_rfl)) rfl ?_
   exact ⟨by first | rfl | (simp [errW_none, errW_some] <;> rfl) | (simp [*, errW_none, errW_some] <;> rfl), by exact zbo HB GE235⟩
 ·rw [if_neg c6] at H
  have c6b0 : (t236 == 0) = false := beq_eq_false_iff_ne.mpr c6
  have c6b1 : (t236 != 0) = true := bne_iff_ne.mpr c6
  simp only [Option.some.injEq, Prod.mk.injEq] at H
  obtain ⟨rfl, rfl, rfl, rfl, rfl⟩ := H
  go_enter Try.func17, Try.ntmps17
  go_wp2_with (first | ((with_reducible refine gate_dst (N := 4) rfl ?_); refine box_event ?hg (N := 4) ?hd (cs := #[.int .i64 a0_0, .int .i64 a0_1, .int .i64 a0_2, .slice A0_3 l0_3.length c0_3]) (t := 24) ?hr ?_; (case hd => rfl); (case hg => rfl); (case hr => first | (go_simp; done) | (go_simp; rfl)); intro gb232 hg w73 hbox hb; have GW232 := zg HB hg; have GE232 := zg HB hg; have n0_ := Aside0.mk (hbox); replace HB := zb HB hb; have BK232 := n0_; clear n0_; clear hb hbox hg) | ((with_reducible refine gate_dst (N := 6) rfl ?_); refine box_event ?hg (N := 6) ?hd (cs := #[.int .i64 a2_0, .int .i64 a2_1, .int .i64 a2_2, .int .i64 a2_3]) (t := 34) ?hr ?_; (case hd => rfl); (case hg => rfl); (case hr => first | (go_simp; done) | (go_simp; rfl)); intro gb233 hg w74 hbox hb; have GW233 := zg HB hg; have GE233 := zg HB hg; have NB232_233 := zn BK232 hg; have NB233_232 := zn' BK232 hg; have n0_ := Aside0.mk (hbox); replace BK232 := zk BK232 hb; replace HB := zb HB hb; have BK233 := n0_; clear n0_; clear hb hbox hg) | ((with_reducible refine gate_dst (N := 7) rfl ?_); refine box_event ?hg (N := 7) ?hd (cs := #[.int .i64 a3_0, .int .i64 a3_1, .int .i64 a3_2, .int .i64 a3_3]) (t := 34) ?hr ?_; (case hd => rfl); (case hg => rfl); (case hr => first | (go_simp; done) | (go_simp; rfl)); intro gb234 hg w75 hbox hb; have GW234 := zg HB hg; have GE234 := zg HB hg; have NB232_234 := zn BK232 hg; have NB234_232 := zn' BK232 hg; have NB233_234 := zn BK233 hg; have NB234_233 := zn' BK233 hg; have n0_ := Aside0.mk (hbox); replace BK232 := zk BK232 hb; replace BK233 := zk BK233 hb; replace HB := zb HB hb; have BK234 := n0_; clear n0_; clear hb hbox hg) | ((with_reducible refine gate_dst (N := 8) rfl ?_); refine box_event ?hg (N := 8) ?hd (cs := #[.int .i64 0, .int .i64 0, .int .i64 0, .int .i64 0]) (t := 34) ?hr ?_; (case hd => rfl); (case hg => rfl); (case hr => first | (go_simp; done) | (go_simp; rfl)); intro gb235 hg w76 hbox hb; have GW235 := zg HB hg; have GE235 := zg HB hg; have NB232_235 := zn BK232 hg; have NB235_232 := zn' BK232 hg; have NB233_235 := zn BK233 hg; have NB235_233 := zn' BK233 hg; have NB234_235 := zn BK234 hg; have NB235_234 := zn' BK234 hg; have n0_ := Aside0.mk (hbox); replace BK232 := zk BK232 hb; replace BK233 := zk BK233 hb; replace BK234 := zk BK234 hb; replace HB := zb HB hb; have BK235 := n0_; clear n0_; clear hb hbox hg; have hnb77 := NB232_233.out; have hnc77 := NB233_232.out; have hnb78 := NB232_234.out; have hnc78 := NB234_232.out; have hnb79 := NB232_235.out; have hnc79 := NB235_232.out; obtain ⟨hcz80_0, hcz80_1, hcz80_2, hcz80_3, hfz80_0, hfz80_1, hfz80_2, hfz80_3⟩ := zq4 BK232) | ((with_reducible refine gate_callee (f := 10) rfl ?_); refine goesL_ (some 12) rfl rfl Try.func10 (by kernel_rfl) rfl #[.agg #[.int .i64 a0_0, .int .i64 a0_1, .int .i64 a0_2, .slice A0_3 l0_3.length c0_3]] rfl (by (try simp only [List.map_toArray, List.map_cons, List.map_nil]); first | done | rfl | (simp only [List.length_drop, List.length_take]; rfl)) ?_; (with_reducible refine (warp_Check.calls k a0_0 a0_1 a0_2 _ _ l0_3 t236 _ ?side1 ?side2 A5.out).mono ?_); (case side1 => repeat (first | exact (Kd.C_below HR0_3.out HB.out) | (with_reducible refine Kd.C_alloc ?_ _) | (with_reducible refine Kd.C_drewN ?_ _) | (with_reducible refine Kd.C_drew ?_))); (case side2 => exact HC0_3.out); rintro e w81 ⟨rfl, hb⟩; refine ⟨_, rfl, ?_⟩; replace BK232 := zk BK232 hb; replace BK233 := zk BK233 hb; replace BK234 := zk BK234 hb; replace BK235 := zk BK235 hb; replace HB := zb HB hb; (try clear hb); (try clear hb2); (try clear hk); (try clear hi); have hnb82 := NB235_233.out; have hnc82 := NB233_235.out; have hnb83 := NB235_234.out; have hnc83 := NB234_235.out; obtain ⟨hcz84_0, hcz84_1, hcz84_2, hcz84_3, hfz84_0, hfz84_1, hfz84_2, hfz84_3⟩ := zq4 BK235))
  refine bodyPost_ret (results_ct rfl _ _ gb235 34 #[.int .i64 0, .int .i64 0, .int .i64 0, .int .i64 0] (0, 0) _ rfl (by exact zp BK235 rfl) Try.underlying34 rfl (by kernel_rfl)) rfl ?_
  exact ⟨by first | rfl | (simp [errW_none, errW_some] <;> rfl) | (simp [*, errW_none, errW_some] <;> rfl), by exact zbo HB GE235⟩

/-! ### raster_sides: function 57 -/
def raster_sides.f (a0 : Int) (a1 : Int) : Option (Int) := if a0 < 0 then (some 15) else (if a0 > 256 then (some 15) else (if a1 < 0 then (some 15) else (if a1 > 256 then (some 15) else (if ((a0 == 0) != (a1 == 0)) = true then (some 15) else (some 0)))))
set_option maxHeartbeats 8000000 in
set_option maxRecDepth 100000 in
theorem raster_sides.calls (a0 : Int) (a1 : Int) (r : Int) (w : World) (h : raster_sides.f a0 a1 = some r) :
  Calls Try.prog 57 #[.int .i64 a0, .int .i64 a1] w fun e w' => e = .returned (.int .i64 r) ∧ Drawn0 w w' := by
 have H : (if a0 < 0 then (some 15) else (if a0 > 256 then (some 15) else (if a1 < 0 then (some 15) else (if a1 > 256 then (some 15) else (if ((a0 == 0) != (a1 == 0)) = true then (some 15) else (some 0)))))) = some r := h
 clear h
 by_cases c3 : a0 < 0
 ·rw [if_pos c3] at H
  have c3b0 : decide (a0 < 0) = true := decide_eq_true c3
  clear c3
  obtain rfl := Option.some.inj H
  go_enter Try.func57, Try.ntmps57
  go_wp2
  go_ret
  exact ⟨by first | rfl | (simp; done) | (simp [*]; done), by repeat (first | exact Drawn0.refl _ | apply Drawn0.step)⟩
 ·rw [if_neg c3] at H
  have c3b0 : decide (a0 < 0) = false := decide_eq_false c3
  clear c3
  by_cases c4 : a0 > 256
  ·rw [if_pos c4] at H
   have c4b0 : decide (256 < a0) = true := decide_eq_true c4
   clear c4
   obtain rfl := Option.some.inj H
   go_enter Try.func57, Try.ntmps57
   go_wp2
   go_ret
   exact ⟨by first | rfl | (simp; done) | (simp [*]; done), by repeat (first | exact Drawn0.refl _ | apply Drawn0.step)⟩
  ·rw [if_neg c4] at H
   have c4b0 : decide (256 < a0) = false := decide_eq_false c4
   clear c4
   by_cases c5 : a1 < 0
   ·rw [if_pos c5] at H
    have c5b0 : decide (a1 < 0) = true := decide_eq_true c5
    clear c5
    obtain rfl := Option.some.inj H
    go_enter Try.func57, Try.ntmps57
    go_wp2
    go_ret
    exact ⟨by first | rfl | (simp; done) | (simp [*]; done), by repeat (first | exact Drawn0.refl _ | apply Drawn0.step)⟩
   ·rw [if_neg c5] at H
    have c5b0 : decide (a1 < 0) = false := decide_eq_false c5
    clear c5
    by_cases c6 : a1 > 256
    ·rw [if_pos c6] at H
     have c6b0 : decide (256 < a1) = true := decide_eq_true c6
     clear c6
     obtain rfl := Option.some.inj H
     go_enter Try.func57, Try.ntmps57
     go_wp2
     go_ret
     exact ⟨by first | rfl | (simp; done) | (simp [*]; done), by repeat (first | exact Drawn0.refl _ | apply Drawn0.step)⟩
    ·rw [if_neg c6] at H
     have c6b0 : decide (256 < a1) = false := decide_eq_false c6
     clear c6
     by_cases c7 : ((a0 == 0) != (a1 == 0)) = true
     ·rw [if_pos c7] at H
      have c7b0 : ((a0 == 0) != (a1 == 0)) = true := c7
      (try (have c7b1 : decide ((a0 == 0) = (a1 == 0)) = false := by simpa using c7))
      (try (have c7b2 : ((a0 == 0) == (a1 == 0)) = false := by simpa using c7))
      (try (have c7b3 : ¬ ((a0 == 0) = (a1 == 0)) := by simpa using c7))
      clear c7
      obtain rfl := Option.some.inj H
      go_enter Try.func57, Try.ntmps57
      go_wp2
      go_ret
      exact ⟨by first | rfl | (simp; done) | (simp [*]; done), by repeat (first | exact Drawn0.refl _ | apply Drawn0.step)⟩
     ·rw [if_neg c7] at H
      have c7b0 : ((a0 == 0) != (a1 == 0)) = false := by simpa using c7
      (try (have c7b1 : decide ((a0 == 0) = (a1 == 0)) = true := by simpa using c7))
      (try (have c7b2 : ((a0 == 0) == (a1 == 0)) = true := by simpa using c7))
      clear c7
      obtain rfl := Option.some.inj H
      go_enter Try.func57, Try.ntmps57
      go_wp2
      go_ret
      exact ⟨by first | rfl | (simp; done) | (simp [*]; done), by repeat (first | exact Drawn0.refl _ | apply Drawn0.step)⟩

/-! ### pixel_unit: function 93 -/
def pixel_unit.f (a0 : Int) : Option (Int) := (num_Clamp.f a0 0 65535).bind fun t252 => (some t252)
set_option maxHeartbeats 8000000 in
set_option maxRecDepth 100000 in
theorem pixel_unit.calls (a0 : Int) (r : Int) (w : World) (h : pixel_unit.f a0 = some r) :
  Calls Try.prog 93 #[.int .i64 a0] w fun e w' => e = .returned (.int .i64 r) ∧ Below w.heap.size w w' := by
 have HB := Aside0.mk (Below.refl w.heap.size w)
 have H : ((num_Clamp.f a0 0 65535).bind fun t252 => (some t252)) = some r := h
 clear h
 replace H := Option.bind_eq_some_iff.mp H
 obtain ⟨t252, A20, H⟩ := H
 replace H : (some t252) = some r := H
 have A2 := Aside0.mk A20
 clear A20
 obtain rfl := Option.some.inj H
 go_enter Try.func93, Try.ntmps93
 go_wp2_with (first | ((with_reducible refine gate_callee (f := 49) rfl ?_); refine goesL_ (some 4) rfl rfl Try.func49 (by kernel_rfl) rfl #[.int .i64 a0, .int .i64 0, .int .i64 65535] rfl (by (try simp only [List.map_toArray, List.map_cons, List.map_nil]); first | done | rfl | (simp only [List.length_drop, List.length_take]; rfl)) ?_; (with_reducible refine (num_Clamp.calls a0 0 65535 t252 _ A2.out).mono ?_); rintro e w3 ⟨rfl, hb⟩; refine ⟨_, rfl, ?_⟩; replace HB := zb HB hb; (try clear hb); (try clear hb2); (try clear hk); (try clear hi)))
 go_ret
 exact ⟨by first | rfl | (simp [errW_none, errW_some] <;> rfl) | (simp [*, errW_none, errW_some] <;> rfl), by exact zb0 HB⟩

/-! ### pixel_Limit: function 87 -/
def pixel_Limit.f (a0_0 : Int) (a0_1 : Int) (a0_2 : Int) (a0_3 : Int) : Option (Int × Int × Int × Int) := (pixel_unit.f a0_0).bind fun t255 => ((pixel_unit.f a0_1).bind fun t256 => ((pixel_unit.f a0_2).bind fun t257 => ((pixel_unit.f a0_3).bind fun t258 => (some (t255, t256, t257, t258)))))
def pixel_Limit.T1 : Bool × List (List Nat × List Nat) := (true, [([], []), ([0], [0]), ([1], [1]), ([], []), ([3], [3]), ([4, 2], [4]), ([], []), ([6], [6]), ([7, 5], [7]), ([], []), ([9], [9]), ([10, 8], [10]), ([2, 5, 8, 11], [2, 5, 8, 11]), ([12, 11, 0, 1, 2, 3, 4, 5, 6, 7, 8, 9, 10, 11, 12], [12])])
def pixel_Limit.B1 : List Nat := [0, 1, 3, 0, 8, 31, 0, 64, 255, 0, 512, 2047, 4095, 8191]
theorem pixel_Limit.tab1 : rtab .any (opsOf Try.f87 1) = pixel_Limit.T1 := by kernel_rfl
theorem pixel_Limit.bits1 : waitsOk pixel_Limit.T1.2 pixel_Limit.B1 = true := by kernel_rfl
set_option maxHeartbeats 8000000 in
set_option maxRecDepth 100000 in
theorem pixel_Limit.calls (a0_0 : Int) (a0_1 : Int) (a0_2 : Int) (a0_3 : Int) (r1 : Int) (r2 : Int) (r3 : Int) (r4 : Int) (w : World) (h : pixel_Limit.f a0_0 a0_1 a0_2 a0_3 = some (r1, r2, r3, r4)) :
  Calls Try.prog 87 #[.agg #[.int .i64 a0_0, .int .i64 a0_1, .int .i64 a0_2, .int .i64 a0_3]] w fun e w' => e = .returned (.agg #[.int .i64 r1, .int .i64 r2, .int .i64 r3, .int .i64 r4]) ∧ Below w.heap.size w w' := by
 have hu48 := Try.underlying48
 have HB := Aside0.mk (Below.refl w.heap.size w)
 have H : ((pixel_unit.f a0_0).bind fun t255 => ((pixel_unit.f a0_1).bind fun t256 => ((pixel_unit.f a0_2).bind fun t257 => ((pixel_unit.f a0_3).bind fun t258 => (some (t255, t256, t257, t258)))))) = some (r1, r2, r3, r4) := h
 clear h
 replace H := Option.bind_eq_some_iff.mp H
 obtain ⟨t255, A20, H⟩ := H
 replace H : ((pixel_unit.f a0_1).bind fun t256 => ((pixel_unit.f a0_2).bind fun t257 => ((pixel_unit.f a0_3).bind fun t258 => (some (t255, t256, t257, t258))))) = some (r1, r2, r3, r4) := H
 have A2 := Aside0.mk A20
 clear A20
 replace H := Option.bind_eq_some_iff.mp H
 obtain ⟨t256, A30, H⟩ := H
 replace H : ((pixel_unit.f a0_2).bind fun t257 => ((pixel_unit.f a0_3).bind fun t258 => (some (t255, t256, t257, t258)))) = some (r1, r2, r3, r4) := H
 have A3 := Aside0.mk A30
 clear A30
 replace H := Option.bind_eq_some_iff.mp H
 obtain ⟨t257, A40, H⟩ := H
 replace H : ((pixel_unit.f a0_3).bind fun t258 => (some (t255, t256, t257, t258))) = some (r1, r2, r3, r4) := H
 have A4 := Aside0.mk A40
 clear A40
 replace H := Option.bind_eq_some_iff.mp H
 obtain ⟨t258, A50, H⟩ := H
 replace H : (some (t255, t256, t257, t258)) = some (r1, r2, r3, r4) := H
 have A5 := Aside0.mk A50
 clear A50
 simp only [Option.some.injEq, Prod.mk.injEq] at H
 obtain ⟨rfl, rfl, rfl, rfl⟩ := H
 go_enter Try.func87, Try.ntmps87
 try go_wp2_with (first | ((with_reducible refine gate_dst (N := 1) rfl ?_); refine box_event ?hg (N := 1) ?hd (cs := #[.int .i64 a0_0, .int .i64 a0_1, .int .i64 a0_2, .int .i64 a0_3]) (t := 48) ?hr ?_; (case hd => rfl); (case hg => rfl); (case hr => first | (go_simp; done) | (go_simp; rfl)); intro gb253 hg w6 hbox hb; have GW253 := zg HB hg; have GE253 := zg HB hg; have n0_ := Aside0.mk (hbox); replace HB := zb HB hb; have BK253 := n0_; clear n0_; clear hb hbox hg) | ((with_reducible refine gate_dst (N := 2) rfl ?_); refine box_event ?hg (N := 2) ?hd (cs := #[.int .i64 0, .int .i64 0, .int .i64 0, .int .i64 0]) (t := 48) ?hr ?_; (case hd => rfl); (case hg => rfl); (case hr => first | (go_simp; done) | (go_simp; rfl)); intro gb254 hg w7 hbox hb; have GW254 := zg HB hg; have GE254 := zg HB hg; have NB253_254 := zn BK253 hg; have NB254_253 := zn' BK253 hg; have n0_ := Aside0.mk (hbox); replace BK253 := zk BK253 hb; replace HB := zb HB hb; have BK254 := n0_; clear n0_; clear hb hbox hg))
 replace BK253 := zkd BK253
 replace BK254 := zkd BK254
 replace HB := zbd HB
 refine start_ (n := 14) (S := fun w' => w'.cell? ⟨gb253, 0, none⟩ = some (.int .i64 a0_0) ∧ w'.cell? ⟨gb253, 1, none⟩ = some (.int .i64 a0_1) ∧ w'.cell? ⟨gb253, 2, none⟩ = some (.int .i64 a0_2) ∧ w'.cell? ⟨gb253, 3, none⟩ = some (.int .i64 a0_3)) (ds := []) (bs 14 0) (by kernel_rfl) rfl rfl ⟨(blk_cell BK253.out 0).trans rfl, (blk_cell BK253.out 1).trans rfl, (blk_cell BK253.out 2).trans rfl, (blk_cell BK253.out 3).trans rfl⟩ (fun hHeld => ?_); refine with_tabW pixel_Limit.tab1 pixel_Limit.bits1 (fun HT_ HW_ => ?_)
 generalize w7.drew = w8 at BK253 BK254 HB hHeld ⊢
 refine pure_ (i := 0) (N := some 3) (v := ?_) (a' := ?_) (bs 14 1) rfl rfl (any_of HT_.out (by kernel_rfl)) (fun _ _ _ h => h) (Or.inl ⟨by rfl, ?_⟩) ?_ ?_
 rotate_left
 ·intro w'
  go_simp
  with_reducible rfl
 rotate_left
 ·simp only [Act.put, sA, sB, sC, i64_w, i32_w]
  rfl
 refine pure_ (i := 3) (N := some 6) (v := ?_) (a' := ?_) (bs 14 9) rfl rfl (any_of HT_.out (by kernel_rfl)) (fun _ _ _ h => h) (Or.inl ⟨by rfl, ?_⟩) ?_ ?_
 rotate_left
 ·intro w'
  go_simp
  with_reducible rfl
 rotate_left
 ·simp only [Act.put, sA, sB, sC, i64_w, i32_w]
  rfl
 refine pure_ (i := 6) (N := some 9) (v := ?_) (a' := ?_) (bs 14 73) rfl rfl (any_of HT_.out (by kernel_rfl)) (fun _ _ _ h => h) (Or.inl ⟨by rfl, ?_⟩) ?_ ?_
 rotate_left
 ·intro w'
  go_simp
  with_reducible rfl
 rotate_left
 ·simp only [Act.put, sA, sB, sC, i64_w, i32_w]
  rfl
 refine pure_ (i := 9) (N := some 12) (v := ?_) (a' := ?_) (bs 14 585) rfl rfl (any_of HT_.out (by kernel_rfl)) (fun _ _ _ h => h) (Or.inl ⟨by rfl, ?_⟩) ?_ ?_
 rotate_left
 ·intro w'
  go_simp
  with_reducible rfl
 rotate_left
 ·simp only [Act.put, sA, sB, sC, i64_w, i32_w]
  rfl
 refine take_ (i := 1) (N := some 4) (v := ?_) (a' := ?_) (bs 14 587) rfl rfl (take_ofW HT_.out HW_.out (by kernel_rfl)) (fun _ _ _ h => h) (Or.inl ⟨by rfl, ?_⟩) hHeld ?_ ?_
 rotate_left
 ·rintro w' ⟨s0, s1, s2, s3⟩
  go_simp
  with_reducible rfl
 rotate_left
 ·simp only [Act.put, sA, sB, sC, i64_w, i32_w]
  rfl
 refine take_ (i := 4) (N := some 7) (v := ?_) (a' := ?_) (bs 14 603) rfl rfl (take_ofW HT_.out HW_.out (by kernel_rfl)) (fun _ _ _ h => h) (Or.inl ⟨by rfl, ?_⟩) hHeld ?_ ?_
 rotate_left
 ·rintro w' ⟨s0, s1, s2, s3⟩
  go_simp
  with_reducible rfl
 rotate_left
 ·simp only [Act.put, sA, sB, sC, i64_w, i32_w]
  rfl
 refine take_ (i := 7) (N := some 10) (v := ?_) (a' := ?_) (bs 14 731) rfl rfl (take_ofW HT_.out HW_.out (by kernel_rfl)) (fun _ _ _ h => h) (Or.inl ⟨by rfl, ?_⟩) hHeld ?_ ?_
 rotate_left
 ·rintro w' ⟨s0, s1, s2, s3⟩
  go_simp
  with_reducible rfl
 rotate_left
 ·simp only [Act.put, sA, sB, sC, i64_w, i32_w]
  rfl
 refine take_ (i := 10) (N := some 13) (v := ?_) (a' := ?_) (bs 14 1755) rfl rfl (take_ofW HT_.out HW_.out (by kernel_rfl)) (fun _ _ _ h => h) (Or.inl ⟨by rfl, ?_⟩) hHeld ?_ ?_
 rotate_left
 ·rintro w' ⟨s0, s1, s2, s3⟩
  go_simp
  with_reducible rfl
 rotate_left
 ·simp only [Act.put, sA, sB, sC, i64_w, i32_w]
  rfl
 refine one_ (i := 2) (N := some 5) (bs 14 1759) rfl rfl (one_of HT_.out (by kernel_rfl)) (by decide) (fun K hK => ?_)
 refine goes_ Try.func93 (by kernel_rfl) rfl #[.int .i64 a0_0] (by rfl) rfl rfl (by (try simp only [List.map_toArray, List.map_cons, List.map_nil]); first | done | rfl | (simp only [List.length_drop, List.length_take]; rfl)) ?_
 with_reducible refine (pixel_unit.calls a0_0 t255 _ A2.out).mono ?_
 rintro e w9 ⟨rfl, hb⟩
 refine ⟨_, rfl, ?_⟩
 replace BK253 := zk BK253 hb
 replace BK254 := zk BK254 hb
 replace HB := zb HB hb
 (try clear hb)
 (try clear hb2)
 (try clear hk)
 (try clear hi)
 refine hK.out _ _ ⟨(blk_cell BK253.out 0).trans rfl, (blk_cell BK253.out 1).trans rfl, (blk_cell BK253.out 2).trans rfl, (blk_cell BK253.out 3).trans rfl⟩ (fun hHeld => ?_)
 clear hK K
 refine norm_ (a' := ?_) ?_ ?_
 rotate_left
 ·show Act.put _ (some 5) _ = _
  simp only [Act.put, sA, sB, sC, i64_w, i32_w]
  rfl
 refine one_ (i := 5) (N := some 8) (bs 14 1791) rfl rfl (one_of HT_.out (by kernel_rfl)) (by decide) (fun K hK => ?_)
 refine goes_ Try.func93 (by kernel_rfl) rfl #[.int .i64 a0_1] (by rfl) rfl rfl (by (try simp only [List.map_toArray, List.map_cons, List.map_nil]); first | done | rfl | (simp only [List.length_drop, List.length_take]; rfl)) ?_
 with_reducible refine (pixel_unit.calls a0_1 t256 _ A3.out).mono ?_
 rintro e w10 ⟨rfl, hb⟩
 refine ⟨_, rfl, ?_⟩
 replace BK253 := zk BK253 hb
 replace BK254 := zk BK254 hb
 replace HB := zb HB hb
 (try clear hb)
 (try clear hb2)
 (try clear hk)
 (try clear hi)
 refine hK.out _ _ ⟨(blk_cell BK253.out 0).trans rfl, (blk_cell BK253.out 1).trans rfl, (blk_cell BK253.out 2).trans rfl, (blk_cell BK253.out 3).trans rfl⟩ (fun hHeld => ?_)
 clear hK K
 refine norm_ (a' := ?_) ?_ ?_
 rotate_left
 ·show Act.put _ (some 8) _ = _
  simp only [Act.put, sA, sB, sC, i64_w, i32_w]
  rfl
 refine one_ (i := 8) (N := some 11) (bs 14 2047) rfl rfl (one_of HT_.out (by kernel_rfl)) (by decide) (fun K hK => ?_)
 refine goes_ Try.func93 (by kernel_rfl) rfl #[.int .i64 a0_2] (by rfl) rfl rfl (by (try simp only [List.map_toArray, List.map_cons, List.map_nil]); first | done | rfl | (simp only [List.length_drop, List.length_take]; rfl)) ?_
 with_reducible refine (pixel_unit.calls a0_2 t257 _ A4.out).mono ?_
 rintro e w11 ⟨rfl, hb⟩
 refine ⟨_, rfl, ?_⟩
 replace BK253 := zk BK253 hb
 replace BK254 := zk BK254 hb
 replace HB := zb HB hb
 (try clear hb)
 (try clear hb2)
 (try clear hk)
 (try clear hi)
 refine hK.out _ _ ⟨(blk_cell BK253.out 0).trans rfl, (blk_cell BK253.out 1).trans rfl, (blk_cell BK253.out 2).trans rfl, (blk_cell BK253.out 3).trans rfl⟩ (fun hHeld => ?_)
 clear hK K
 refine norm_ (a' := ?_) ?_ ?_
 rotate_left
 ·show Act.put _ (some 11) _ = _
  simp only [Act.put, sA, sB, sC, i64_w, i32_w]
  rfl
 refine one_ (i := 11) (N := some 14) (bs 14 4095) rfl rfl (one_of HT_.out (by kernel_rfl)) (by decide) (fun K hK => ?_)
 refine goes_ Try.func93 (by kernel_rfl) rfl #[.int .i64 a0_3] (by rfl) rfl rfl (by (try simp only [List.map_toArray, List.map_cons, List.map_nil]); first | done | rfl | (simp only [List.length_drop, List.length_take]; rfl)) ?_
 with_reducible refine (pixel_unit.calls a0_3 t258 _ A5.out).mono ?_
 rintro e w12 ⟨rfl, hb⟩
 refine ⟨_, rfl, ?_⟩
 replace BK253 := zk BK253 hb
 replace BK254 := zk BK254 hb
 replace HB := zb HB hb
 (try clear hb)
 (try clear hb2)
 (try clear hk)
 (try clear hi)
 refine hK.out _ _ ⟨(blk_cell BK253.out 0).trans rfl, (blk_cell BK253.out 1).trans rfl, (blk_cell BK253.out 2).trans rfl, (blk_cell BK253.out 3).trans rfl⟩ (fun hHeld => ?_)
 clear hK K
 refine norm_ (a' := ?_) ?_ ?_
 rotate_left
 ·show Act.put _ (some 14) _ = _
  simp only [Act.put, sA, sB, sC, i64_w, i32_w]
  rfl
 refine pure_ (i := 12) (N := some 15) (v := ?_) (a' := ?_) (bs 14 8191) rfl rfl (any_of HT_.out (by kernel_rfl)) (fun _ _ _ h => h) (Or.inl ⟨by rfl, ?_⟩) ?_ ?_
 rotate_left
 ·intro w'
  go_simp
  with_reducible rfl
 rotate_left
 ·simp only [Act.put, sA, sB, sC, i64_w, i32_w]
  rfl
 refine one_ (i := 13) (N := none) (bs 14 16383) rfl rfl (one_of HT_.out (by kernel_rfl)) (by decide) (fun K hK => ?_)
 have hs13 : w12.cell? ⟨gb254, 0, none⟩ = some (.int .i64 0) := (blk_cell BK254.out 0).trans rfl
 have hfs13 := blk_frozen BK254.out 0
 have hns13_0 := NB253_254.out
 have hms13_0 := NB254_253.out
 have hs14 : w12.cell? ⟨gb254, 1, none⟩ = some (.int .i64 0) := (blk_cell BK254.out 1).trans rfl
 have hfs14 := blk_frozen BK254.out 1
 have hns14_0 := NB253_254.out
 have hms14_0 := NB254_253.out
 have hs15 : w12.cell? ⟨gb254, 2, none⟩ = some (.int .i64 0) := (blk_cell BK254.out 2).trans rfl
 have hfs15 := blk_frozen BK254.out 2
 have hns15_0 := NB253_254.out
 have hms15_0 := NB254_253.out
 have hs16 : w12.cell? ⟨gb254, 3, none⟩ = some (.int .i64 0) := (blk_cell BK254.out 3).trans rfl
 have hfs16 := blk_frozen BK254.out 3
 have hns16_0 := NB253_254.out
 have hms16_0 := NB254_253.out
 refine skip_ (w1 := ?_) (by rfl) rfl ?_ ?_
 rotate_left
 ·go_simp
  rfl
 refine hK.out _ _ ⟨((cell_far (p := ⟨gb254, _, none⟩) NB253_254.out _).trans (((cell_far (p := ⟨gb254, _, none⟩) NB253_254.out _).trans (((cell_far (p := ⟨gb254, _, none⟩) NB253_254.out _).trans (((cell_far (p := ⟨gb254, _, none⟩) NB253_254.out _).trans (hHeld.1)))))))), ((cell_far (p := ⟨gb254, _, none⟩) NB253_254.out _).trans (((cell_far (p := ⟨gb254, _, none⟩) NB253_254.out _).trans (((cell_far (p := ⟨gb254, _, none⟩) NB253_254.out _).trans (((cell_far (p := ⟨gb254, _, none⟩) NB253_254.out _).trans (hHeld.2.1)))))))), ((cell_far (p := ⟨gb254, _, none⟩) NB253_254.out _).trans (((cell_far (p := ⟨gb254, _, none⟩) NB253_254.out _).trans (((cell_far (p := ⟨gb254, _, none⟩) NB253_254.out _).trans (((cell_far (p := ⟨gb254, _, none⟩) NB253_254.out _).trans (hHeld.2.2.1)))))))), ((cell_far (p := ⟨gb254, _, none⟩) NB253_254.out _).trans (((cell_far (p := ⟨gb254, _, none⟩) NB253_254.out _).trans (((cell_far (p := ⟨gb254, _, none⟩) NB253_254.out _).trans (((cell_far (p := ⟨gb254, _, none⟩) NB253_254.out _).trans (hHeld.2.2.2))))))))⟩ (fun hHeld => ?_)
 clear hK K
 refine done_ (done_of HT_.out (by kernel_rfl)) ?_
 try go_wp2
 refine bodyPost_ret (results_cell_row rfl _ _ gb254 48 #[.int .i64 t255, .int .i64 t256, .int .i64 t257, .int .i64 t258] (0, 0) _ rfl (by exact zp BK254 rfl) Try.underlying48 rfl (by kernel_rfl)) rfl ?_
 exact ⟨by first | rfl | (simp [errW_none, errW_some] <;> rfl) | (simp [*, errW_none, errW_some] <;> rfl), by exact zbo HB GE254⟩

end Go.Proofs.Ytnfbabmceddciaa.G
