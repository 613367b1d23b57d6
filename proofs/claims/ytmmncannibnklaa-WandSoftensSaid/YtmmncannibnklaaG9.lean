/- Contracts of functions of the program, each as it is called: what it computes (.f), that it computes no less with more rounds (.mono), and that a call returns just that (.calls). No conditions but those that each contract names. Written by a program of this session (wip/gx.py over the kit's print). -/
import Derived.Test.YtmmncannibnklaaG0
import Derived.Test.YtmmncannibnklaaG1
import Derived.Test.YtmmncannibnklaaG8
namespace Go.Proofs.Ytmmncannibnklaa.G
open Go.RowKit Go.Proofs.YtmmncannibnklaaW.PrintWords Go.Proofs.YtmmncannibnklaaW.PrintLast Go.Proofs.YtmmncannibnklaaW.PrintMore
attribute [local go_sem] max2_int min2_int max_two min_two max_three min_three max_four min_four   -- for this text's walks alone
set_option linter.unusedVariables false
set_option linter.unusedSimpArgs false


/-! ### wand_Soft_1: function 35 -/
def wand_Soft_1.j0 : Nat → Int → Bool → Int → Int → Option (Int)
 | 0, _, _, _, _ => none
 | k + 1, x6, x17, x296000, x297000 => if x17 = true then ((wand_chosen.f (decide (x6 ≤ x296000))).bind fun t299 => (some t299)) else ((num_Div.f k (wrap64 (65535 * (wrap64 (x297000 - x6)))) (wrap64 (x297000 - x296000))).bind fun t300 => (some t300))
def wand_Soft_1.f (k : Nat) (a0_0 : Int) (a0_1 : Int) (a0_2 : Int) (a0_3 : Int) (a1_0 : Int) (a1_1 : Int) (a1_2 : Int) (a1_3 : Int) (a2_0 : Int) (a3_0 : Int) : Option (Int) := (pixel_Dist.f a0_0 a0_1 a0_2 a0_3 a1_0 a1_1 a1_2 a1_3).bind fun t298 => (if t298 ≤ a2_0 then (wand_Soft_1.j0 k t298 true a2_0 a3_0) else (wand_Soft_1.j0 k t298 (decide (t298 ≥ a3_0)) a2_0 a3_0))
theorem wand_Soft_1.mono_l : ∀ k, (∀ y0 y1 y2 y3, LeO (wand_Soft_1.j0 k y0 y1 y2 y3) (wand_Soft_1.j0 (k + 1) y0 y1 y2 y3))
 | 0 => fun _ _ _ _ r h => by simp [wand_Soft_1.j0] at h
 | k + 1 => by
  have ih0 := wand_Soft_1.mono_l k
  ·intro y0 y1 y2 y3
   unfold wand_Soft_1.j0
   repeat' first
   | (with_reducible exact ih0 _ _ _ _)
   | (with_reducible exact num_Div.mono _ _ _)
   | (with_reducible exact LeO.refl _)
   | (with_reducible exact LeO.none _)
   | (with_reducible refine LeO.ite ?_ ?_)
   | (with_reducible refine LeO.bind ?_ (fun _ => ?_))
   | exact ih0 _ _ _ _
   | exact num_Div.mono _ _ _
   | exact LeO.none _
   | refine LeO.ite ?_ ?_
   | refine LeO.bind ?_ (fun _ => ?_)
theorem wand_Soft_1.mono : ∀ a0 a1 a2 a3 a4 a5 a6 a7 a8 a9 k, LeO (wand_Soft_1.f k a0 a1 a2 a3 a4 a5 a6 a7 a8 a9) (wand_Soft_1.f (k + 1) a0 a1 a2 a3 a4 a5 a6 a7 a8 a9) := by
 intro a0 a1 a2 a3 a4 a5 a6 a7 a8 a9 k
 have ih0 := wand_Soft_1.mono_l k
 unfold wand_Soft_1.f
 repeat' first
   | (with_reducible exact ih0 _ _ _ _)
   | (with_reducible exact num_Div.mono _ _ _)
   | (with_reducible exact LeO.refl _)
   | (with_reducible exact LeO.none _)
   | (with_reducible refine LeO.ite ?_ ?_)
   | (with_reducible refine LeO.bind ?_ (fun _ => ?_))
   | exact ih0 _ _ _ _
   | exact num_Div.mono _ _ _
   | exact LeO.none _
   | refine LeO.ite ?_ ?_
   | refine LeO.bind ?_ (fun _ => ?_)
set_option maxHeartbeats 8000000 in
set_option maxRecDepth 100000 in
theorem wand_Soft_1.calls (k : Nat) (a0_0 : Int) (a0_1 : Int) (a0_2 : Int) (a0_3 : Int) (gc1_0 : Nat) (a1_0 : Int) (a1_1 : Int) (a1_2 : Int) (a1_3 : Int) (gc2_0 : Nat) (a2_0 : Int) (gc3_0 : Nat) (a3_0 : Int) (r : Int) (w : World) (hp1_0 : w.heap[gc1_0]? = some (.cells #[.int .i64 a1_0, .int .i64 a1_1, .int .i64 a1_2, .int .i64 a1_3] 37 (0, 0))) (hp2_0 : w.heap[gc2_0]? = some (.cells #[.int .i64 a2_0] 3 (0, 0))) (hp3_0 : w.heap[gc3_0]? = some (.cells #[.int .i64 a3_0] 3 (0, 0))) (h : wand_Soft_1.f k a0_0 a0_1 a0_2 a0_3 a1_0 a1_1 a1_2 a1_3 a2_0 a3_0 = some r) :
  Calls Try.prog 35 #[.agg #[.int .i64 a0_0, .int .i64 a0_1, .int .i64 a0_2, .int .i64 a0_3], .pointer (some ⟨gc1_0, 0, none⟩), .pointer (some ⟨gc2_0, 0, none⟩), .pointer (some ⟨gc3_0, 0, none⟩)] w fun e w' => e = .returned (.int .i64 r) ∧ Below w.heap.size w w' := by
 have hu37 := Try.underlying37
 have BK294 := Aside0.mk hp1_0
 have GL294 := Aside0.mk (show gc1_0 < w.heap.size from blk_lt hp1_0)
 clear hp1_0
 have BK295 := Aside0.mk hp2_0
 have GL295 := Aside0.mk (show gc2_0 < w.heap.size from blk_lt hp2_0)
 clear hp2_0
 have BK296 := Aside0.mk hp3_0
 have GL296 := Aside0.mk (show gc3_0 < w.heap.size from blk_lt hp3_0)
 clear hp3_0
 have HB := Aside0.mk (Below.refl w.heap.size w)
 have H : ((pixel_Dist.f a0_0 a0_1 a0_2 a0_3 a1_0 a1_1 a1_2 a1_3).bind fun t298 => (if t298 ≤ a2_0 then (wand_Soft_1.j0 k t298 true a2_0 a3_0) else (wand_Soft_1.j0 k t298 (decide (t298 ≥ a3_0)) a2_0 a3_0))) = some r := h
 clear h
 replace H := Option.bind_eq_some_iff.mp H
 obtain ⟨t298, A50, H⟩ := H
 replace H : (if t298 ≤ a2_0 then (wand_Soft_1.j0 k t298 true a2_0 a3_0) else (wand_Soft_1.j0 k t298 (decide (t298 ≥ a3_0)) a2_0 a3_0)) = some r := H
 have A5 := Aside0.mk A50
 clear A50
 have HC6 := Aside0.mk H
 clear H
 go_enter Try.func35, Try.ntmps35
 go_upto_region 2 with (first | ((with_reducible refine gate_dst (N := 4) rfl ?_); refine box_event ?hg (N := 4) ?hd (cs := #[.int .i64 a0_0, .int .i64 a0_1, .int .i64 a0_2, .int .i64 a0_3]) (t := 37) ?hr ?_; (case hd => rfl); (case hg => rfl); (case hr => first | (go_simp; done) | (go_simp; rfl)); intro gb297 hg w7 hbox hb; have GW297 := zg HB hg; have GE297 := zg HB hg; have NB294_297 := zn BK294 hg; have NB297_294 := zn' BK294 hg; have NB295_297 := zn BK295 hg; have NB297_295 := zn' BK295 hg; have NB296_297 := zn BK296 hg; have NB297_296 := zn' BK296 hg; have n0_ := Aside0.mk (hbox); replace BK294 := zk BK294 hb; replace BK295 := zk BK295 hb; replace BK296 := zk BK296 hb; replace HB := zb HB hb; have BK297 := n0_; clear n0_; clear hb hbox hg; obtain ⟨hcz8_0, hcz8_1, hcz8_2, hcz8_3, hfz8_0, hfz8_1, hfz8_2, hfz8_3⟩ := zq4 BK297; obtain ⟨hcz9_0, hcz9_1, hcz9_2, hcz9_3, hfz9_0, hfz9_1, hfz9_2, hfz9_3⟩ := zq4 BK294) | ((with_reducible refine gate_callee (f := 20) rfl ?_); refine goesL_ (some 9) rfl rfl Try.func20 (by kernel_rfl) rfl #[.agg #[.int .i64 a0_0, .int .i64 a0_1, .int .i64 a0_2, .int .i64 a0_3], .agg #[.int .i64 a1_0, .int .i64 a1_1, .int .i64 a1_2, .int .i64 a1_3]] rfl (by (try simp only [List.map_toArray, List.map_cons, List.map_nil]); first | done | rfl | (simp only [List.length_drop, List.length_take]; rfl)) ?_; (with_reducible refine (pixel_Dist.calls a0_0 a0_1 a0_2 a0_3 a1_0 a1_1 a1_2 a1_3 t298 _ A5.out).mono ?_); rintro e w10 ⟨rfl, hb⟩; refine ⟨_, rfl, ?_⟩; replace BK294 := zk BK294 hb; replace BK295 := zk BK295 hb; replace BK296 := zk BK296 hb; replace BK297 := zk BK297 hb; replace HB := zb HB hb; (try clear hb); (try clear hb2); (try clear hk); (try clear hi)))
 (try simp only [Act.put, sA, sB, sC])
 go_cut [17] (fun v17 wc => ∃ (kq : Nat) (x17_5 : Bool), v17 = .bool x17_5 ∧ Aside0 (wand_Soft_1.j0 kq t298 x17_5 a2_0 a3_0 = some r) ∧ Aside0 (kq ≤ k) ∧ Aside0 (wc.heap[gc1_0]? = some (.cells #[.int .i64 a1_0, .int .i64 a1_1, .int .i64 a1_2, .int .i64 a1_3] 37 (0, 0))) ∧ Aside0 (wc.heap[gc2_0]? = some (.cells #[.int .i64 a2_0] 3 (0, 0))) ∧ Aside0 (wc.heap[gc3_0]? = some (.cells #[.int .i64 a3_0] 3 (0, 0))) ∧ Aside0 (wc.heap[gb297]? = some (.cells #[.int .i64 a0_0, .int .i64 a0_1, .int .i64 a0_2, .int .i64 a0_3] 37 (0, 0))) ∧ Aside0 (Below w.heap.size w wc))
 case first =>
  have H := HC6.out
  clear HC6
  by_cases c11 : t298 ≤ a2_0
  ·rw [if_pos c11] at H
   have c11b0 : decide (t298 ≤ a2_0) = true := decide_eq_true c11
   clear c11
   (first | rw [c11b0] | (simp only [i64_w, i32_w]; rw [c11b0]) | skip)
   have H' := Aside0.mk H
   clear H
   obtain ⟨hcz12_0, hfz12_0⟩ := zq1 BK295
   go_wp2
   go_meet
   case rel => exact ⟨_, (true), (by first | rfl | (simp; done) | (simp [*]; done)), H', ⟨by first | omega | exact Nat.le_refl _⟩, ⟨by exact zk0 BK294⟩, ⟨by exact zk0 BK295⟩, ⟨by exact zk0 BK296⟩, ⟨by exact zk0 BK297⟩, ⟨by exact zb0 HB⟩⟩
  ·rw [if_neg c11] at H
   have c11b0 : decide (t298 ≤ a2_0) = false := decide_eq_false c11
   clear c11
   (first | rw [c11b0] | (simp only [i64_w, i32_w]; rw [c11b0]) | skip)
   have H' := Aside0.mk H
   clear H
   obtain ⟨hcz13_0, hfz13_0⟩ := zq1 BK295
   obtain ⟨hcz14_0, hfz14_0⟩ := zq1 BK296
   go_wp2
   go_meet
   case rel => exact ⟨_, (decide (t298 ≥ a3_0)), (by first | rfl | (simp; done) | (simp [*]; done)), H', ⟨by first | omega | exact Nat.le_refl _⟩, ⟨by exact zk0 BK294⟩, ⟨by exact zk0 BK295⟩, ⟨by exact zk0 BK296⟩, ⟨by exact zk0 BK297⟩, ⟨by exact zb0 HB⟩⟩
 case rest =>
  clear HC6
  try clear c1
  try clear p1
  try clear q1
  try clear c2
  try clear p2
  try clear c3
  try clear p3
  try clear q4
  try clear c11
  try clear c11b0
  try clear hcz12_0
  try clear hcz13_0
  try clear hcz14_0
  try clear hcz8_0
  try clear hcz8_1
  try clear hcz8_2
  try clear hcz8_3
  try clear hcz9_0
  try clear hcz9_1
  try clear hcz9_2
  try clear hcz9_3
  try clear hfz12_0
  try clear hfz13_0
  try clear hfz14_0
  try clear hfz8_0
  try clear hfz8_1
  try clear hfz8_2
  try clear hfz8_3
  try clear hfz9_0
  try clear hfz9_1
  try clear hfz9_2
  try clear hfz9_3
  obtain ⟨kq, x17_5, rfl, HA, HJ5, BK294, BK295, BK296, BK297, HB⟩ := hcut
  cases kq with
  | zero => exact absurd HA.out (by simp [wand_Soft_1.j0])
  | succ kj5 =>
   have H := HA.out
   clear HA
   simp only [wand_Soft_1.j0] at H
   by_cases c15 : x17_5 = true
   ·subst c15
    have H1 : ((wand_chosen.f (decide (t298 ≤ a2_0))).bind fun t299 => (some t299)) = some r := by rw [if_pos rfl] at H; exact H
    clear H
    have H := H1
    clear H1
    replace H := Option.bind_eq_some_iff.mp H
    obtain ⟨t299, A160, H⟩ := H
    replace H : (some t299) = some r := H
    have A16 := Aside0.mk A160
    clear A160
    obtain rfl := Option.some.inj H
    obtain ⟨hcz17_0, hfz17_0⟩ := zq1 BK295
    go_wp2_with (first | ((with_reducible refine gate_callee (f := 33) rfl ?_); refine goesL_ (some 21) rfl rfl Try.func33 (by kernel_rfl) rfl #[.bool (decide (t298 ≤ a2_0))] rfl (by (try simp only [List.map_toArray, List.map_cons, List.map_nil]); first | done | rfl | (simp only [List.length_drop, List.length_take]; rfl)) ?_; (with_reducible refine (wand_chosen.calls (decide (t298 ≤ a2_0)) t299 _ A16.out).mono ?_); rintro e w' ⟨rfl, ⟨nd, rfl⟩⟩; refine ⟨_, rfl, ?_⟩))
    go_ret
    exact ⟨by first | rfl | (simp [errW_none, errW_some] <;> rfl) | (simp [*, errW_none, errW_some] <;> rfl), by exact zb0 HB⟩
   ·replace c15 := Bool.eq_false_iff.mpr c15
    subst c15
    have H1 : ((num_Div.f kj5 (wrap64 (65535 * (wrap64 (a3_0 - t298)))) (wrap64 (a3_0 - a2_0))).bind fun t300 => (some t300)) = some r := by rw [if_neg (show ¬ (false = true) by decide)] at H; exact H
    clear H
    have H := H1
    clear H1
    replace H := Option.bind_eq_some_iff.mp H
    obtain ⟨t300, A180, H⟩ := H
    replace H : (some t300) = some r := H
    have A18 := Aside0.mk A180
    clear A180
    obtain rfl := Option.some.inj H
    obtain ⟨hcz19_0, hfz19_0⟩ := zq1 BK296
    obtain ⟨hcz20_0, hfz20_0⟩ := zq1 BK295
    go_wp2_with (first | ((with_reducible refine gate_callee (f := 36) rfl ?_); refine goesL_ (some 29) rfl rfl Try.func36 (by kernel_rfl) rfl #[.int .i64 (wrap64 (65535 * (wrap64 (a3_0 - t298)))), .int .i64 (wrap64 (a3_0 - a2_0))] rfl (by (try simp only [List.map_toArray, List.map_cons, List.map_nil]); first | done | rfl | (simp only [List.length_drop, List.length_take]; rfl)) ?_; (with_reducible refine (num_Div.calls kj5 (wrap64 (65535 * (wrap64 (a3_0 - t298)))) (wrap64 (a3_0 - a2_0)) t300 _ A18.out).mono ?_); rintro e w' ⟨rfl, ⟨nd, rfl⟩⟩; refine ⟨_, rfl, ?_⟩))
    go_ret
    exact ⟨by first | rfl | (simp [errW_none, errW_some] <;> rfl) | (simp [*, errW_none, errW_some] <;> rfl), by exact zb0 HB⟩

/-! ### wand_each__wand_Soft_1: function 31 -/
def wand_each__wand_Soft_1.l0 : Nat → List (S37) → Int → Int → Int → Int → Int → Int → Int → Int → Int → Int → List Int → Option (Int × Int × List Int)
 | 0, _, _, _, _, _, _, _, _, _, _, _, _ => none
 | k + 1, x14, x15, x16, x302000, x302001, x302002, x302003, x303000, x304000, x307000, x307001, x307002 => if x16 < x15 then (if 0 ≤ x16 then (if x16 < (x14.length : Int) then ((wand_Soft_1.f k ((rd_T37 x14 x16).f0) ((rd_T37 x14 x16).f1) ((rd_T37 x14 x16).f2) ((rd_T37 x14 x16).f3) x302000 x302001 x302002 x302003 x303000 x304000).bind fun t309 => (if x307002.length < 17592186044416 then (wand_each__wand_Soft_1.l0 k x14 x15 (wrap64 (x16 + 1)) x302000 x302001 x302002 x302003 x303000 x304000 x307000 x307001 (x307002 ++ [t309])) else (none))) else (none)) else (none)) else (some (x307000, x307001, x307002))
def wand_each__wand_Soft_1.f (k : Nat) (a0_0 : Int) (a0_1 : Int) (l0_2 : List (S37)) (a1_0 : Int) (a1_1 : Int) (a1_2 : Int) (a1_3 : Int) (a1_4 : Int) (a1_5 : Int) : Option (Int × Int × List Int) := wand_each__wand_Soft_1.l0 k l0_2 (l0_2.length : Int) 0 a1_0 a1_1 a1_2 a1_3 a1_4 a1_5 a0_0 a0_1 ([] : List Int)
theorem wand_each__wand_Soft_1.mono_l : ∀ k, (∀ y0 y1 y2 y3 y4 y5 y6 y7 y8 y9 y10 y11, LeO (wand_each__wand_Soft_1.l0 k y0 y1 y2 y3 y4 y5 y6 y7 y8 y9 y10 y11) (wand_each__wand_Soft_1.l0 (k + 1) y0 y1 y2 y3 y4 y5 y6 y7 y8 y9 y10 y11))
 | 0 => fun _ _ _ _ _ _ _ _ _ _ _ _ r h => by simp [wand_each__wand_Soft_1.l0] at h
 | k + 1 => by
  have ih0 := wand_each__wand_Soft_1.mono_l k
  ·intro y0 y1 y2 y3 y4 y5 y6 y7 y8 y9 y10 y11
   unfold wand_each__wand_Soft_1.l0
   repeat' first
   | (with_reducible exact ih0 _ _ _ _ _ _ _ _ _ _ _ _)
   | (with_reducible exact wand_Soft_1.mono _ _ _ _ _ _ _ _ _ _ _)
   | (with_reducible exact LeO.refl _)
   | (with_reducible exact LeO.none _)
   | (with_reducible refine LeO.ite ?_ ?_)
   | (with_reducible refine LeO.bind ?_ (fun _ => ?_))
   | exact ih0 _ _ _ _ _ _ _ _ _ _ _ _
   | exact wand_Soft_1.mono _ _ _ _ _ _ _ _ _ _ _
   | exact LeO.none _
   | refine LeO.ite ?_ ?_
   | refine LeO.bind ?_ (fun _ => ?_)
theorem wand_each__wand_Soft_1.mono : ∀ a0 a1 a2 a3 a4 a5 a6 a7 a8 k, LeO (wand_each__wand_Soft_1.f k a0 a1 a2 a3 a4 a5 a6 a7 a8) (wand_each__wand_Soft_1.f (k + 1) a0 a1 a2 a3 a4 a5 a6 a7 a8) := by
 intro a0 a1 a2 a3 a4 a5 a6 a7 a8 k
 have ih0 := wand_each__wand_Soft_1.mono_l k
 unfold wand_each__wand_Soft_1.f
 repeat' first
   | (with_reducible exact ih0 _ _ _ _ _ _ _ _ _ _ _ _)
   | (with_reducible exact wand_Soft_1.mono _ _ _ _ _ _ _ _ _ _ _)
   | (with_reducible exact LeO.refl _)
   | (with_reducible exact LeO.none _)
   | (with_reducible refine LeO.ite ?_ ?_)
   | (with_reducible refine LeO.bind ?_ (fun _ => ?_))
   | exact ih0 _ _ _ _ _ _ _ _ _ _ _ _
   | exact wand_Soft_1.mono _ _ _ _ _ _ _ _ _ _ _
   | exact LeO.none _
   | refine LeO.ite ?_ ?_
   | refine LeO.bind ?_ (fun _ => ?_)
def wand_each__wand_Soft_1.T5 : Bool × List (List Nat × List Nat) := (true, [([], []), ([0], [0]), ([], []), ([], []), ([2, 3], [2, 3]), ([4], [4]), ([1, 5, 4], [1, 5]), ([0, 1, 2, 3, 4, 5, 6], []), ([7, 6, 6, 0, 1, 2, 3, 4, 5, 6], [6, 7])])
def wand_each__wand_Soft_1.B5 : List Nat := [0, 1, 0, 0, 12, 28, 63, 127, 255]
theorem wand_each__wand_Soft_1.tab5 : rtab .any (opsOf Try.f31 5) = wand_each__wand_Soft_1.T5 := by kernel_rfl
theorem wand_each__wand_Soft_1.bits5 : waitsOk wand_each__wand_Soft_1.T5.2 wand_each__wand_Soft_1.B5 = true := by kernel_rfl
set_option maxHeartbeats 8000000 in
set_option maxRecDepth 100000 in
theorem wand_each__wand_Soft_1.calls (k : Nat) (a0_0 : Int) (a0_1 : Int) (A0_2 : Option Addr) (c0_2 : Nat) (l0_2 : List (S37)) (gc1_0 : Nat) (gc1_1 : Nat) (gc1_2 : Nat) (a1_0 : Int) (a1_1 : Int) (a1_2 : Int) (a1_3 : Int) (a1_4 : Int) (a1_5 : Int) (r1 : Int) (r2 : Int) (r3 : List Int) (w : World) (hr0_2 : Kd.C k37 w A0_2 l0_2.length l0_2) (hc0_2 : l0_2.length ≤ c0_2) (hp1_0 : w.heap[gc1_0]? = some (.cells #[.int .i64 a1_0, .int .i64 a1_1, .int .i64 a1_2, .int .i64 a1_3] 37 (0, 0))) (hp1_1 : w.heap[gc1_1]? = some (.cells #[.int .i64 a1_4] 3 (0, 0))) (hp1_2 : w.heap[gc1_2]? = some (.cells #[.int .i64 a1_5] 3 (0, 0))) (h : wand_each__wand_Soft_1.f k a0_0 a0_1 l0_2 a1_0 a1_1 a1_2 a1_3 a1_4 a1_5 = some (r1, r2, r3)) :
  Calls Try.prog 31 #[.agg #[.int .i64 a0_0, .int .i64 a0_1, .slice A0_2 l0_2.length c0_2], .func (.func 35) #[] #[.pointer (some ⟨gc1_0, 0, none⟩), .pointer (some ⟨gc1_1, 0, none⟩), .pointer (some ⟨gc1_2, 0, none⟩)]] w fun e w' => ∃ v2_ : Value, e = .returned (.agg #[.int .i64 r1, .int .i64 r2, v2_]) ∧ Kd.R (Kd.int .i64) 3 w' w.heap.size (fun _ => True) v2_ r3 ∧ Below w.heap.size w w' := by
 have hu24 := Try.underlying24
 have hu29 := Try.underlying29
 have hu37 := Try.underlying37
 have HR0_2 := Aside0.mk hr0_2
 have HC0_2 := Aside0.mk hc0_2
 clear hr0_2 hc0_2
 have BK301 := Aside0.mk hp1_0
 have GL301 := Aside0.mk (show gc1_0 < w.heap.size from blk_lt hp1_0)
 clear hp1_0
 have BK302 := Aside0.mk hp1_1
 have GL302 := Aside0.mk (show gc1_1 < w.heap.size from blk_lt hp1_1)
 clear hp1_1
 have BK303 := Aside0.mk hp1_2
 have GL303 := Aside0.mk (show gc1_2 < w.heap.size from blk_lt hp1_2)
 clear hp1_2
 have HB := Aside0.mk (Below.refl w.heap.size w)
 have H : (wand_each__wand_Soft_1.l0 k l0_2 (l0_2.length : Int) 0 a1_0 a1_1 a1_2 a1_3 a1_4 a1_5 a0_0 a0_1 ([] : List Int)) = some (r1, r2, r3) := h
 clear h
 have H' := Aside0.mk H
 clear H
 go_enter Try.func31, Try.ntmps31
 go_wp2_with (first | ((with_reducible refine gate_dst (N := 2) rfl ?_); refine box_event ?hg (N := 2) ?hd (cs := #[.int .i64 a0_0, .int .i64 a0_1, .slice A0_2 l0_2.length c0_2]) (t := 24) ?hr ?_; (case hd => rfl); (case hg => rfl); (case hr => first | (go_simp; done) | (go_simp; rfl)); intro gb304 hg w3 hbox hb; have GW304 := zg HB hg; have GE304 := zg HB hg; have NB301_304 := zn BK301 hg; have NB304_301 := zn' BK301 hg; have NB302_304 := zn BK302 hg; have NB304_302 := zn' BK302 hg; have NB303_304 := zn BK303 hg; have NB304_303 := zn' BK303 hg; have n0_ := Aside0.mk (hbox); replace BK301 := zk BK301 hb; replace BK302 := zk BK302 hb; replace BK303 := zk BK303 hb; replace HB := zb HB hb; have BK304 := n0_; clear n0_; clear hb hbox hg) | ((with_reducible refine gate_dst (N := 4) rfl ?_); refine box_event ?hg (N := 4) ?hd (cs := #[.int .i64 0, .int .i64 0, .slice none 0 0]) (t := 29) ?hr ?_; (case hd => rfl); (case hg => rfl); (case hr => first | (go_simp; done) | (go_simp; rfl)); intro gb305 hg w4 hbox hb; have GW305 := zg HB hg; have GE305 := zg HB hg; have NB301_305 := zn BK301 hg; have NB305_301 := zn' BK301 hg; have NB302_305 := zn BK302 hg; have NB305_302 := zn' BK302 hg; have NB303_305 := zn BK303 hg; have NB305_303 := zn' BK303 hg; have NB304_305 := zn BK304 hg; have NB305_304 := zn' BK304 hg; have n0_ := Aside0.mk (hbox); replace BK301 := zk BK301 hb; replace BK302 := zk BK302 hb; replace BK303 := zk BK303 hb; replace BK304 := zk BK304 hb; replace HB := zb HB hb; have BK305 := n0_; clear n0_; clear hb hbox hg; have hnb5 := NB304_301.out; have hnc5 := NB301_304.out; have hnb6 := NB304_302.out; have hnc6 := NB302_304.out; have hnb7 := NB304_303.out; have hnc7 := NB303_304.out; have hnb8 := NB304_305.out; have hnc8 := NB305_304.out; obtain ⟨hcz9_0, hcz9_1, hcz9_2, hfz9_0, hfz9_1, hfz9_2⟩ := zq3 BK304) | ((with_reducible refine gate_dst (N := 5) rfl ?_); refine box_event ?hg (N := 5) ?hd (cs := #[.int .i64 0, .int .i64 0, .slice none 0 0]) (t := 29) ?hr ?_; (case hd => rfl); (case hg => rfl); (case hr => first | (go_simp; done) | (go_simp; rfl)); intro gb306 hg w10 hbox hb; have GW306 := zg HB hg; have GE306 := zg HB hg; have NB301_306 := zn BK301 hg; have NB306_301 := zn' BK301 hg; have NB302_306 := zn BK302 hg; have NB306_302 := zn' BK302 hg; have NB303_306 := zn BK303 hg; have NB306_303 := zn' BK303 hg; have NB304_306 := zn BK304 hg; have NB306_304 := zn' BK304 hg; have NB305_306 := zn BK305 hg; have NB306_305 := zn' BK305 hg; have n0_ := Aside0.mk (hbox); replace BK301 := zk BK301 hb; replace BK302 := zk BK302 hb; replace BK303 := zk BK303 hb; replace BK304 := zk BK304 hb; replace BK305 := zk BK305 hb; replace HB := zb HB hb; have BK306 := n0_; clear n0_; clear hb hbox hg; have hnb11 := NB306_301.out; have hnc11 := NB301_306.out; have hnb12 := NB306_302.out; have hnc12 := NB302_306.out; have hnb13 := NB306_303.out; have hnc13 := NB303_306.out; have hnb14 := NB306_304.out; have hnc14 := NB304_306.out; have hnb15 := NB306_305.out; have hnc15 := NB305_306.out; obtain ⟨hcz16_0, hcz16_1, hcz16_2, hfz16_0, hfz16_1, hfz16_2⟩ := zq3 BK306; obtain ⟨hcz17_0, hcz17_1, hcz17_2, hfz17_0, hfz17_1, hfz17_2⟩ := zq3 BK304))
 (try simp only [Act.put, sA, sB, sC])
 go_loopg [16] k (fun kq v16 w' => ∃ (x16_1 : Int) (x307002_1 : List Int) (u307002 : Value), v16 = .int .i64 x16_1 ∧ Aside0 (wand_each__wand_Soft_1.l0 kq l0_2 (l0_2.length : Int) x16_1 a1_0 a1_1 a1_2 a1_3 a1_4 a1_5 a0_0 a0_1 x307002_1 = some (r1, r2, r3)) ∧ Aside0 (kq ≤ k) ∧ Aside0 (Kd.R (Kd.int .i64) 3 w' w.heap.size (fun k_ => k_ ≠ gc1_1 ∧ k_ ≠ gc1_2) u307002 x307002_1) ∧ Aside0 (w'.heap[gc1_0]? = some (.cells #[.int .i64 a1_0, .int .i64 a1_1, .int .i64 a1_2, .int .i64 a1_3] 37 (0, 0))) ∧ Aside0 (w'.heap[gc1_1]? = some (.cells #[.int .i64 a1_4] 3 (0, 0))) ∧ Aside0 (w'.heap[gc1_2]? = some (.cells #[.int .i64 a1_5] 3 (0, 0))) ∧ Aside0 (w'.heap[gb304]? = some (.cells #[.int .i64 a0_0, .int .i64 a0_1, (.slice A0_2 l0_2.length c0_2)] 24 (0, 0))) ∧ Aside0 (w'.heap[gb305]? = some (.cells #[.int .i64 0, .int .i64 0, (.slice none 0 0)] 29 (0, 0))) ∧ Aside0 (w'.heap[gb306]? = some (.cells #[.int .i64 a0_0, .int .i64 a0_1, u307002] 29 (0, 0))) ∧ Aside0 (Below w.heap.size w w'))
 case atStart => exact ⟨(0), (([] : List Int)), (.slice none 0 0), (by first | rfl | (simp; done) | (simp [*]; done)), H', ⟨Nat.le_refl _⟩, ⟨by first | exact Kd.R_nil _ _ _ _ _ | exact Kd.N_nil _ _ _ _ _ | exact Kd.V_nil _ _ _ _ _ | exact Kd.Q_nil _ _ _ _ _ | exact Kd.S_nil _ _ _ _ _⟩, ⟨by exact zf BK301 NB301_306⟩, ⟨by exact zf BK302 NB302_306⟩, ⟨by exact zf BK303 NB303_306⟩, ⟨by exact zf BK304 NB304_306⟩, ⟨by exact zf BK305 NB305_306⟩, ⟨by exact zp BK306 rfl⟩, ⟨by exact zbo HB GE306⟩⟩
 case round =>
  clear H'
  try clear c1
  try clear p1
  try clear p2
  try clear c3
  try clear q3
  try clear c5
  try clear c6
  try clear c7
  try clear c8
  try clear c11
  try clear c12
  try clear c13
  try clear c14
  try clear c15
  try clear hcz16_0
  try clear hcz16_1
  try clear hcz16_2
  try clear hcz17_0
  try clear hcz17_1
  try clear hcz17_2
  try clear hcz9_0
  try clear hcz9_1
  try clear hcz9_2
  try clear hfz16_0
  try clear hfz16_1
  try clear hfz16_2
  try clear hfz17_0
  try clear hfz17_1
  try clear hfz17_2
  try clear hfz9_0
  try clear hfz9_1
  try clear hfz9_2
  obtain ⟨x16_1, x307002_1, u307002, rfl, HA, HK1, HO_307002, BK301, BK302, BK303, BK304, BK305, BK306, HB⟩ := hrel
  cases gk with
  | zero => exact absurd HA.out (by simp [wand_each__wand_Soft_1.l0])
  | succ k1 =>
   have H := HA.out
   clear HA
   simp only [wand_each__wand_Soft_1.l0] at H
   by_cases c18 : x16_1 < (l0_2.length : Int)
   ·rw [if_pos c18] at H
    have c18b0 : decide (x16_1 < (l0_2.length : Int)) = true := decide_eq_true c18
    clear c18
    by_cases c19 : 0 ≤ x16_1
    ·rw [if_pos c19] at H
     have c19b0 : decide (0 ≤ x16_1) = true := decide_eq_true c19
     clear c19
     by_cases c20 : x16_1 < (l0_2.length : Int)
     ·rw [if_pos c20] at H
      have c20b0 : decide (x16_1 < (l0_2.length : Int)) = true := decide_eq_true c20
      clear c20
      replace H := Option.bind_eq_some_iff.mp H
      obtain ⟨t309, A210, H⟩ := H
      replace H : (if x307002_1.length < 17592186044416 then (wand_each__wand_Soft_1.l0 k1 l0_2 (l0_2.length : Int) (wrap64 (x16_1 + 1)) a1_0 a1_1 a1_2 a1_3 a1_4 a1_5 a0_0 a0_1 (x307002_1 ++ [t309])) else (none)) = some (r1, r2, r3) := H
      have A21 := Aside0.mk A210
      clear A210
      by_cases c22 : x307002_1.length < 17592186044416
      ·rw [if_pos c22] at H
       have LMc22 := Aside0.mk c22
       clear c22
       obtain ⟨y310, hy310⟩ : ∃ y_ : List Int, y_ = (x307002_1 ++ [t309]) := ⟨_, rfl⟩
       replace H : (wand_each__wand_Soft_1.l0 k1 l0_2 (l0_2.length : Int) (wrap64 (x16_1 + 1)) a1_0 a1_1 a1_2 a1_3 a1_4 a1_5 a0_0 a0_1 y310) = some (r1, r2, r3) := by first | (rw [hy310]; with_reducible exact H) | (have H2_ := (Option.bind_some _ _).symm.trans H; rw [hy310]; with_reducible exact H2_) | (have H2_ := (Option.bind_some _ _).symm.trans H; with_reducible exact H2_) | with_reducible exact H | (rw [hy310]; exact H) | exact H
       have Ny310 := Aside0.mk hy310
       clear hy310
       have H' := Aside0.mk H
       clear H
       have p307 : 0 ≤ (x16_1 : Int) := of_decide_eq_true (by first | (with_reducible assumption) | assumption)
       have q307 : x16_1 < (l0_2.length : Int) := of_decide_eq_true (by first | (with_reducible assumption) | assumption)
       obtain ⟨ad307, e307, hx307_0, hx307_1, hx307_2, hx307_3⟩ := at_T37 HR0_2.out x16_1 p307 q307
       cases e307
       replace hx307_0 := (HB.out.cell (World.block_lt_of_cell? w _ hx307_0)).trans hx307_0
       replace hx307_1 := (HB.out.cell (World.block_lt_of_cell? w _ hx307_1)).trans hx307_1
       replace hx307_2 := (HB.out.cell (World.block_lt_of_cell? w _ hx307_2)).trans hx307_2
       replace hx307_3 := (HB.out.cell (World.block_lt_of_cell? w _ hx307_3)).trans hx307_3
       replace p307 := eq_true p307
       replace q307 := eq_true q307
       try go_wp2_with (first | ((with_reducible refine gate_dst (N := 7) rfl ?_); refine box_event ?hg (N := 7) ?hd (cs := #[.int .i64 0, .int .i64 0, .int .i64 0, .int .i64 0]) (t := 37) ?hr ?_; (case hd => rfl); (case hg => rfl); (case hr => first | (go_simp; done) | (go_simp; rfl)); intro gb308 hg w23 hbox hb; have GW308 := zg HB hg; have GE308 := zg HB hg; have NB301_308 := zn BK301 hg; have NB308_301 := zn' BK301 hg; have NB302_308 := zn BK302 hg; have NB308_302 := zn' BK302 hg; have NB303_308 := zn BK303 hg; have NB308_303 := zn' BK303 hg; have NB304_308 := zn BK304 hg; have NB308_304 := zn' BK304 hg; have NB305_308 := zn BK305 hg; have NB308_305 := zn' BK305 hg; have NB306_308 := zn BK306 hg; have NB308_306 := zn' BK306 hg; have n0_ := Aside0.mk (hbox); replace HO_307002 := zr HO_307002 hb; replace BK301 := zk BK301 hb; replace BK302 := zk BK302 hb; replace BK303 := zk BK303 hb; replace BK304 := zk BK304 hb; replace BK305 := zk BK305 hb; replace BK306 := zk BK306 hb; replace HB := zb HB hb; have BK308 := n0_; clear n0_; clear hb hbox hg; have hnb24 := NB308_301.out; have hnc24 := NB301_308.out; have hnb25 := NB308_302.out; have hnc25 := NB302_308.out; have hnb26 := NB308_303.out; have hnc26 := NB303_308.out; have hnb27 := NB308_304.out; have hnc27 := NB304_308.out; have hnb28 := NB308_305.out; have hnc28 := NB305_308.out; have hnb29 := NB308_306.out; have hnc29 := NB306_308.out; obtain ⟨hcz30_0, hcz30_1, hcz30_2, hcz30_3, hfz30_0, hfz30_1, hfz30_2, hfz30_3⟩ := zq4 BK308))
       have n0_ : Aside0 (Kd.R (Kd.int .i64) 3 ((((w23.setCell ⟨gb308, 0, none⟩ (.int .i64 ((rd_T37 l0_2 x16_1).f0))).setCell ⟨gb308, 1, none⟩ (.int .i64 ((rd_T37 l0_2 x16_1).f1))).setCell ⟨gb308, 2, none⟩ (.int .i64 ((rd_T37 l0_2 x16_1).f2))).setCell ⟨gb308, 3, none⟩ (.int .i64 ((rd_T37 l0_2 x16_1).f3))) w.heap.size (fun k_ => k_ ≠ gc1_1 ∧ k_ ≠ gc1_2) u307002 x307002_1) := ⟨by exact zro HO_307002 BK308 (by decide)⟩
       have n1_ : Aside0 (((((w23.setCell ⟨gb308, 0, none⟩ (.int .i64 ((rd_T37 l0_2 x16_1).f0))).setCell ⟨gb308, 1, none⟩ (.int .i64 ((rd_T37 l0_2 x16_1).f1))).setCell ⟨gb308, 2, none⟩ (.int .i64 ((rd_T37 l0_2 x16_1).f2))).setCell ⟨gb308, 3, none⟩ (.int .i64 ((rd_T37 l0_2 x16_1).f3))).heap[gc1_0]? = some (.cells #[.int .i64 a1_0, .int .i64 a1_1, .int .i64 a1_2, .int .i64 a1_3] 37 (0, 0))) := ⟨by exact zf BK301 NB301_308⟩
       have n2_ : Aside0 (((((w23.setCell ⟨gb308, 0, none⟩ (.int .i64 ((rd_T37 l0_2 x16_1).f0))).setCell ⟨gb308, 1, none⟩ (.int .i64 ((rd_T37 l0_2 x16_1).f1))).setCell ⟨gb308, 2, none⟩ (.int .i64 ((rd_T37 l0_2 x16_1).f2))).setCell ⟨gb308, 3, none⟩ (.int .i64 ((rd_T37 l0_2 x16_1).f3))).heap[gc1_1]? = some (.cells #[.int .i64 a1_4] 3 (0, 0))) := ⟨by exact zf BK302 NB302_308⟩
       have n3_ : Aside0 (((((w23.setCell ⟨gb308, 0, none⟩ (.int .i64 ((rd_T37 l0_2 x16_1).f0))).setCell ⟨gb308, 1, none⟩ (.int .i64 ((rd_T37 l0_2 x16_1).f1))).setCell ⟨gb308, 2, none⟩ (.int .i64 ((rd_T37 l0_2 x16_1).f2))).setCell ⟨gb308, 3, none⟩ (.int .i64 ((rd_T37 l0_2 x16_1).f3))).heap[gc1_2]? = some (.cells #[.int .i64 a1_5] 3 (0, 0))) := ⟨by exact zf BK303 NB303_308⟩
       have n4_ : Aside0 (((((w23.setCell ⟨gb308, 0, none⟩ (.int .i64 ((rd_T37 l0_2 x16_1).f0))).setCell ⟨gb308, 1, none⟩ (.int .i64 ((rd_T37 l0_2 x16_1).f1))).setCell ⟨gb308, 2, none⟩ (.int .i64 ((rd_T37 l0_2 x16_1).f2))).setCell ⟨gb308, 3, none⟩ (.int .i64 ((rd_T37 l0_2 x16_1).f3))).heap[gb304]? = some (.cells #[.int .i64 a0_0, .int .i64 a0_1, .slice (some ad307) l0_2.length c0_2] 24 (0, 0))) := ⟨by exact zf BK304 NB304_308⟩
       have n5_ : Aside0 (((((w23.setCell ⟨gb308, 0, none⟩ (.int .i64 ((rd_T37 l0_2 x16_1).f0))).setCell ⟨gb308, 1, none⟩ (.int .i64 ((rd_T37 l0_2 x16_1).f1))).setCell ⟨gb308, 2, none⟩ (.int .i64 ((rd_T37 l0_2 x16_1).f2))).setCell ⟨gb308, 3, none⟩ (.int .i64 ((rd_T37 l0_2 x16_1).f3))).heap[gb305]? = some (.cells #[.int .i64 0, .int .i64 0, .slice none 0 0] 29 (0, 0))) := ⟨by exact zf BK305 NB305_308⟩
       have n6_ : Aside0 (((((w23.setCell ⟨gb308, 0, none⟩ (.int .i64 ((rd_T37 l0_2 x16_1).f0))).setCell ⟨gb308, 1, none⟩ (.int .i64 ((rd_T37 l0_2 x16_1).f1))).setCell ⟨gb308, 2, none⟩ (.int .i64 ((rd_T37 l0_2 x16_1).f2))).setCell ⟨gb308, 3, none⟩ (.int .i64 ((rd_T37 l0_2 x16_1).f3))).heap[gb306]? = some (.cells #[.int .i64 a0_0, .int .i64 a0_1, u307002] 29 (0, 0))) := ⟨by exact zf BK306 NB306_308⟩
       have n7_ : Aside0 (((((w23.setCell ⟨gb308, 0, none⟩ (.int .i64 ((rd_T37 l0_2 x16_1).f0))).setCell ⟨gb308, 1, none⟩ (.int .i64 ((rd_T37 l0_2 x16_1).f1))).setCell ⟨gb308, 2, none⟩ (.int .i64 ((rd_T37 l0_2 x16_1).f2))).setCell ⟨gb308, 3, none⟩ (.int .i64 ((rd_T37 l0_2 x16_1).f3))).heap[gb308]? = some (.cells #[.int .i64 ((rd_T37 l0_2 x16_1).f0), .int .i64 ((rd_T37 l0_2 x16_1).f1), .int .i64 ((rd_T37 l0_2 x16_1).f2), .int .i64 ((rd_T37 l0_2 x16_1).f3)] 37 (0, 0))) := ⟨by exact zp BK308 rfl⟩
       have n8_ : Aside0 (Below w.heap.size w ((((w23.setCell ⟨gb308, 0, none⟩ (.int .i64 ((rd_T37 l0_2 x16_1).f0))).setCell ⟨gb308, 1, none⟩ (.int .i64 ((rd_T37 l0_2 x16_1).f1))).setCell ⟨gb308, 2, none⟩ (.int .i64 ((rd_T37 l0_2 x16_1).f2))).setCell ⟨gb308, 3, none⟩ (.int .i64 ((rd_T37 l0_2 x16_1).f3)))) := ⟨by exact zbo HB GE308⟩
       (try clear HO_307002)
       (try clear BK301)
       (try clear BK302)
       (try clear BK303)
       (try clear BK304)
       (try clear BK305)
       (try clear BK306)
       (try clear BK308)
       (try clear HB)
       generalize ((((w23.setCell ⟨gb308, 0, none⟩ (.int .i64 ((rd_T37 l0_2 x16_1).f0))).setCell ⟨gb308, 1, none⟩ (.int .i64 ((rd_T37 l0_2 x16_1).f1))).setCell ⟨gb308, 2, none⟩ (.int .i64 ((rd_T37 l0_2 x16_1).f2))).setCell ⟨gb308, 3, none⟩ (.int .i64 ((rd_T37 l0_2 x16_1).f3))) = w31 at n0_ n1_ n2_ n3_ n4_ n5_ n6_ n7_ n8_ ⊢
       have HO_307002 := n0_
       have BK301 := n1_
       have BK302 := n2_
       have BK303 := n3_
       have BK304 := n4_
       have BK305 := n5_
       have BK306 := n6_
       have BK308 := n7_
       have HB := n8_
       clear n0_ n1_ n2_ n3_ n4_ n5_ n6_ n7_ n8_
       replace HO_307002 := zrd HO_307002
       replace BK301 := zkd BK301
       replace BK302 := zkd BK302
       replace BK303 := zkd BK303
       replace BK304 := zkd BK304
       replace BK305 := zkd BK305
       replace BK306 := zkd BK306
       replace BK308 := zkd BK308
       replace HB := zbd HB
       refine start_ (n := 9) (S := fun w' => w'.cell? ⟨gb306, 0, none⟩ = some (.int .i64 a0_0) ∧ w'.cell? ⟨gb306, 1, none⟩ = some (.int .i64 a0_1) ∧ w'.cell? ⟨gb306, 2, none⟩ = some (u307002) ∧ w'.cell? ⟨gb308, 0, none⟩ = some (.int .i64 ((rd_T37 l0_2 x16_1).f0)) ∧ w'.cell? ⟨gb308, 1, none⟩ = some (.int .i64 ((rd_T37 l0_2 x16_1).f1)) ∧ w'.cell? ⟨gb308, 2, none⟩ = some (.int .i64 ((rd_T37 l0_2 x16_1).f2)) ∧ w'.cell? ⟨gb308, 3, none⟩ = some (.int .i64 ((rd_T37 l0_2 x16_1).f3))) (ds := [8]) (bs 9 0) (by kernel_rfl) rfl rfl ⟨(blk_cell BK306.out 0).trans rfl, (blk_cell BK306.out 1).trans rfl, (blk_cell BK306.out 2).trans rfl, (blk_cell BK308.out 0).trans rfl, (blk_cell BK308.out 1).trans rfl, (blk_cell BK308.out 2).trans rfl, (blk_cell BK308.out 3).trans rfl⟩ (fun hHeld => ?_); refine with_tabW wand_each__wand_Soft_1.tab5 wand_each__wand_Soft_1.bits5 (fun HT_ HW_ => ?_)
       generalize w31.drew = w32 at HO_307002 BK301 BK302 BK303 BK304 BK305 BK306 BK308 HB hHeld ⊢
       refine pure_ (i := 0) (N := some 20) (v := ?_) (a' := ?_) (bs 9 1) rfl rfl (any_of HT_.out (by kernel_rfl)) (fun _ _ _ h => h) (Or.inl ⟨by rfl, ?_⟩) ?_ ?_
       rotate_left
       ·intro w'
        go_simp
        with_reducible rfl
       rotate_left
       ·simp only [Act.put, sA, sB, sC, i64_w, i32_w]
        rfl
       refine pure_ (i := 2) (N := some 22) (v := ?_) (a' := ?_) (bs 9 5) rfl rfl (any_of HT_.out (by kernel_rfl)) (fun _ _ _ h => h) (Or.inl ⟨by rfl, ?_⟩) ?_ ?_
       rotate_left
       ·intro w'
        go_simp
        with_reducible rfl
       rotate_left
       ·simp only [Act.put, sA, sB, sC, i64_w, i32_w]
        rfl
       refine take_ (i := 1) (N := some 21) (v := ?_) (a' := ?_) (bs 9 7) rfl rfl (take_ofW HT_.out HW_.out (by kernel_rfl)) (fun _ _ _ h => h) (Or.inl ⟨by rfl, ?_⟩) hHeld ?_ ?_
       rotate_left
       ·rintro w' ⟨s0, s1, s2, s3, s4, s5, s6⟩
        go_simp
        with_reducible rfl
       rotate_left
       ·simp only [Act.put, sA, sB, sC, i64_w, i32_w]
        rfl
       refine take_ (i := 3) (N := some 23) (v := ?_) (a' := ?_) (bs 9 15) rfl rfl (take_ofW HT_.out HW_.out (by kernel_rfl)) (fun _ _ _ h => h) (Or.inl ⟨by rfl, ?_⟩) hHeld ?_ ?_
       rotate_left
       ·rintro w' ⟨s0, s1, s2, s3, s4, s5, s6⟩
        go_simp
        with_reducible rfl
       rotate_left
       ·simp only [Act.put, sA, sB, sC, i64_w, i32_w]
        rfl
       refine one_ (i := 4) (N := some 24) (bs 9 31) rfl rfl (one_of HT_.out (by kernel_rfl)) (by decide) (fun K hK => ?_)
       refine goesT_ (t := 22) Try.func35 (by kernel_rfl) rfl #[.pointer (some ⟨gc1_0, 0, none⟩), .pointer (some ⟨gc1_1, 0, none⟩), .pointer (some ⟨gc1_2, 0, none⟩)] #[.agg #[.int .i64 ((rd_T37 l0_2 x16_1).f0), .int .i64 ((rd_T37 l0_2 x16_1).f1), .int .i64 ((rd_T37 l0_2 x16_1).f2), .int .i64 ((rd_T37 l0_2 x16_1).f3)], .pointer (some ⟨gc1_0, 0, none⟩), .pointer (some ⟨gc1_1, 0, none⟩), .pointer (some ⟨gc1_2, 0, none⟩)] (by rfl) rfl rfl (by first | rfl | (go_simp; done) | (go_simp; rfl)) (by (try simp only [List.map_toArray, List.map_cons, List.map_nil]); first | done | rfl | (go_simp; done) | (go_simp; rfl)) ?_
       with_reducible refine (wand_Soft_1.calls k1 ((rd_T37 l0_2 x16_1).f0) ((rd_T37 l0_2 x16_1).f1) ((rd_T37 l0_2 x16_1).f2) ((rd_T37 l0_2 x16_1).f3) gc1_0 a1_0 a1_1 a1_2 a1_3 gc1_1 a1_4 gc1_2 a1_5 t309 _ ?side1 ?side2 ?side3 A21.out).mono ?_
       (case side1 => exact zk0 BK301)
       (case side2 => exact zk0 BK302)
       (case side3 => exact zk0 BK303)
       rintro e w33 ⟨rfl, hb⟩
       refine ⟨_, rfl, ?_⟩
       replace HO_307002 := zr HO_307002 hb
       replace BK301 := zk BK301 hb
       replace BK302 := zk BK302 hb
       replace BK303 := zk BK303 hb
       replace BK304 := zk BK304 hb
       replace BK305 := zk BK305 hb
       replace BK306 := zk BK306 hb
       replace BK308 := zk BK308 hb
       replace HB := zb HB hb
       (try clear hb)
       (try clear hb2)
       (try clear hk)
       (try clear hi)
       refine hK.out _ _ ⟨(blk_cell BK306.out 0).trans rfl, (blk_cell BK306.out 1).trans rfl, (blk_cell BK306.out 2).trans rfl, (blk_cell BK308.out 0).trans rfl, (blk_cell BK308.out 1).trans rfl, (blk_cell BK308.out 2).trans rfl, (blk_cell BK308.out 3).trans rfl⟩ (fun hHeld => ?_)
       clear hK K
       refine norm_ (a' := ?_) ?_ ?_
       rotate_left
       ·show Act.put _ (some 24) _ = _
        simp only [Act.put, sA, sB, sC, i64_w, i32_w]
        rfl
       refine one_ (i := 5) (N := some 25) (bs 9 63) rfl rfl (one_of HT_.out (by kernel_rfl)) (by decide) (fun K hK => ?_)
       refine value_ (w1 := ?_) (v := ?_) (by rfl) rfl ?_ ?_
       rotate_left 2
       ·go_simp
        constructor
        ·rfl
        ·rfl
       refine hK.out _ _ ⟨(blk_cell (blk_alloc BK306.out _) 0).trans rfl, (blk_cell (blk_alloc BK306.out _) 1).trans rfl, (blk_cell (blk_alloc BK306.out _) 2).trans rfl, (blk_cell (blk_alloc BK308.out _) 0).trans rfl, (blk_cell (blk_alloc BK308.out _) 1).trans rfl, (blk_cell (blk_alloc BK308.out _) 2).trans rfl, (blk_cell (blk_alloc BK308.out _) 3).trans rfl⟩ (fun hHeld => ?_)
       clear hK K
       refine norm_ (a' := ?_) ?_ ?_
       rotate_left
       ·show Act.put _ (some 25) _ = _
        simp only [Act.put, sA, sB, sC, i64_w, i32_w]
        rfl
       refine one_ (i := 6) (N := some 26) (bs 9 127) rfl rfl (one_of HT_.out (by kernel_rfl)) (by decide) (fun K hK => ?_)
       refine Kd.R_append_step (Kd.int .i64) (w0 := w) w.heap.size (by rfl) (.tmp 21) (.tmp 25) 27 3 (.int .i64 0) 8 rfl Try.underlying27 info3 rfl (by decide) (by omega) u307002 x307002_1 t309 [.int .i64 t309] (fun k_ => k_ ≠ gc1_1 ∧ k_ ≠ gc1_2) (fun _ => False) rfl rfl ?aP (fun _ hk => hk.elim) ?aF ?aO ?aB ?aS ?aL ?_
       (case aP => exact rfl)
       (case aB => exact (by exact zb0 HB))
       (case aF => exact (fun k_ hk => ⟨Kd.freshB (zk0 BK302) k_ hk, Kd.freshB (zk0 BK303) k_ hk⟩))
       (case aO => exact (by exact zr0 HO_307002))
       (case aS => exact (below_size (by exact zb0 HB)))
       (case aL => have := LMc22.out; omega)
       intro v311 w34 ho hb hg hat
       rw [← Ny310.out] at ho
       have n0_ := Aside0.mk (blk_grown (zk0 BK301) hg (fun e_ => Nat.not_le.2 GL301.out (Kd.R_base HO_307002.out _ e_.symm)))
       have n1_ := Aside0.mk (blk_grown (zk0 BK302) hg (fun e_ => Nat.not_le.2 GL302.out (Kd.R_base HO_307002.out _ e_.symm)))
       have n2_ := Aside0.mk (blk_grown (zk0 BK303) hg (fun e_ => Nat.not_le.2 GL303.out (Kd.R_base HO_307002.out _ e_.symm)))
       have n3_ := Aside0.mk (blk_grown (zk0 BK304) hg (Kd.R_ne HO_307002.out BK304.out (by decide)))
       have n4_ := Aside0.mk (blk_grown (zk0 BK305) hg (Kd.R_ne HO_307002.out BK305.out (by decide)))
       have n5_ := Aside0.mk (blk_grown (zk0 BK306) hg (Kd.R_ne HO_307002.out BK306.out (by decide)))
       have n6_ := Aside0.mk (blk_grown (zk0 BK308) hg (Kd.R_ne HO_307002.out BK308.out (by decide)))
       have n7_ := Aside0.mk (hb)
       have n8_ := Aside0.mk (ho)
       clear BK301
       clear BK302
       clear BK303
       clear BK304
       clear BK305
       clear BK306
       clear BK308
       clear HB
       clear HO_307002
       have BK301 := n0_
       have BK302 := n1_
       have BK303 := n2_
       have BK304 := n3_
       have BK305 := n4_
       have BK306 := n5_
       have BK308 := n6_
       have HB := n7_
       have HO312 := n8_
       clear n0_ n1_ n2_ n3_ n4_ n5_ n6_ n7_ n8_
       clear ho hb hg hat
       obtain ⟨Ao35, co35, eo35⟩ := Kd.R_slice HO312.out
       (first | subst eo35 | (injection eo35 with f1_ f2_ f3_; have f4_ := f1_.symm; have f5_ := f3_.symm; clear f1_ f2_ f3_; subst f4_; subst f5_))
       refine hK.out _ _ ⟨(blk_cell BK306.out 0).trans rfl, (blk_cell BK306.out 1).trans rfl, (blk_cell BK306.out 2).trans rfl, (blk_cell BK308.out 0).trans rfl, (blk_cell BK308.out 1).trans rfl, (blk_cell BK308.out 2).trans rfl, (blk_cell BK308.out 3).trans rfl⟩ (fun hHeld => ?_)
       clear hK K
       refine norm_ (a' := ?_) ?_ ?_
       rotate_left
       ·show Act.put _ (some 26) _ = _
        simp only [Act.put, sA, sB, sC, i64_w, i32_w]
        rfl
       refine pure_ (i := 7) (N := some 27) (v := ?_) (a' := ?_) (bs 9 255) rfl rfl (any_of HT_.out (by kernel_rfl)) (fun _ _ _ h => h) (Or.inl ⟨by rfl, ?_⟩) ?_ ?_
       rotate_left
       ·intro w'
        go_simp
        with_reducible rfl
       rotate_left
       ·simp only [Act.put, sA, sB, sC, i64_w, i32_w]
        rfl
       refine last_ (i := 8) (N := none) (bs 9 511) rfl rfl (one_of HT_.out (by kernel_rfl)) (by decide) (fun K hK => ?_)
       have hs36 : w34.cell? ⟨gb306, 2, none⟩ = some (u307002) := (blk_cell BK306.out 2).trans rfl
       have hfs36 := blk_frozen BK306.out 2
       have hns36_0 := NB301_306.out
       have hns36_1 := NB302_306.out
       have hns36_2 := NB303_306.out
       have hns36_3 := NB304_306.out
       have hns36_4 := NB305_306.out
       have hns36_6 := NB308_306.out
       have hms36_0 := NB306_301.out
       have hms36_1 := NB306_302.out
       have hms36_2 := NB306_303.out
       have hms36_3 := NB306_304.out
       have hms36_4 := NB306_305.out
       have hms36_6 := NB306_308.out
       refine skip_ (w1 := ?_) (by rfl) rfl ?_ ?_
       rotate_left
       ·go_simp
        rfl
       refine hK.out _ _ ?_
       clear hK K
       refine done_ (done_of HT_.out (by kernel_rfl)) ?_
       try go_wp2
       go_roundg k1
       case measure => have := HK1.out; omega
       case rel => exact ⟨(wrap64 (x16_1 + 1)), (y310), (.slice Ao35 y310.length co35), (by first | rfl | (simp; done) | (simp [*]; done)), H', ⟨by have := HK1.out; omega⟩, ⟨by exact zro HO312 BK306 (by decide)⟩, ⟨by exact zf BK301 NB301_306⟩, ⟨by exact zf BK302 NB302_306⟩, ⟨by exact zf BK303 NB303_306⟩, ⟨by exact zf BK304 NB304_306⟩, ⟨by exact zf BK305 NB305_306⟩, ⟨by exact zp BK306 rfl⟩, ⟨by exact zbo HB GE306⟩⟩
      ·rw [if_neg c22] at H
       exact absurd H (by simp)
     ·rw [if_neg c20] at H
      exact absurd H (by simp)
    ·rw [if_neg c19] at H
     exact absurd H (by simp)
   ·rw [if_neg c18] at H
    have c18b0 : decide (x16_1 < (l0_2.length : Int)) = false := decide_eq_false c18
    clear c18
    simp only [Option.some.injEq, Prod.mk.injEq] at H
    obtain ⟨rfl, rfl, rfl⟩ := H
    have hnb37 := NB306_301.out
    have hnc37 := NB301_306.out
    have hnb38 := NB306_302.out
    have hnc38 := NB302_306.out
    have hnb39 := NB306_303.out
    have hnc39 := NB303_306.out
    have hnb40 := NB306_304.out
    have hnc40 := NB304_306.out
    have hnb41 := NB306_305.out
    have hnc41 := NB305_306.out
    obtain ⟨hcz42_0, hcz42_1, hcz42_2, hfz42_0, hfz42_1, hfz42_2⟩ := zq3 BK306
    have hnb43 := NB305_301.out
    have hnc43 := NB301_305.out
    have hnb44 := NB305_302.out
    have hnc44 := NB302_305.out
    have hnb45 := NB305_303.out
    have hnc45 := NB303_305.out
    have hnb46 := NB305_304.out
    have hnc46 := NB304_305.out
    obtain ⟨hcz47_0, hcz47_1, hcz47_2, hfz47_0, hfz47_1, hfz47_2⟩ := zq3 BK305
    obtain ⟨Ao48, co48, eo48⟩ := Kd.R_slice HO_307002.out
    subst eo48
    go_wp2
    refine bodyPost_ret (results_cell_row rfl _ _ gb305 29 #[.int .i64 a0_0, .int .i64 a0_1, .slice Ao48 x307002_1.length co48] (0, 0) _ rfl (by exact zp BK305 rfl) Try.underlying29 rfl (by kernel_rfl)) rfl ?_
    exact ⟨_, by first | rfl | (simp [errW_none, errW_some] <;> rfl) | (simp [*, errW_none, errW_some] <;> rfl), by (with_reducible repeat (first | apply Kd.R_alloc | apply Kd.R_drewN | apply Kd.R_drew)); exact Kd.R_mono (Kd.R_far (p := ⟨gb305, 2, none⟩) (Kd.R_far (p := ⟨gb305, 1, none⟩) (Kd.R_far (p := ⟨gb305, 0, none⟩) (Kd.R_types HO_307002.out BK305.out (by decide)) (fun _ hk => hk.2) (.int .i64 a0_0)) (fun _ hk => hk.2) (.int .i64 a0_1)) (fun _ hk => hk.2) (.slice Ao48 x307002_1.length co48)) (fun _ hk => trivial), by exact zbo HB GE305⟩

/-! ### wand_Soft: function 15 -/
def wand_Soft.j0 : Nat → Bool → Int → Int → List (S37) → Int → Int → Int → Int → Int → Int → Option (Int × Int × List Int × Int)
 | 0, _, _, _, _, _, _, _, _, _, _ => none
 | k + 1, x29, x314000, x314001, x314002, x315000, x315001, x315002, x315003, x316000, x317000 => if x29 = true then (some (0, 0, ([] : List Int), 2)) else (if x316000 ≥ x317000 then (some (0, 0, ([] : List Int), 24)) else ((wand_each__wand_Soft_1.f k x314000 x314001 x314002 x315000 x315001 x315002 x315003 x316000 x317000).bind fun bt322 => (some (bt322.1, bt322.2.1, bt322.2.2, 0))))
def wand_Soft.f (k : Nat) (a0_0 : Int) (a0_1 : Int) (l0_2 : List (S37)) (a1_0 : Int) (a1_1 : Int) (a1_2 : Int) (a1_3 : Int) (a2 : Int) (a3 : Int) : Option (Int × Int × List Int × Int) := (raster_Check.f k a0_0 a0_1 l0_2).bind fun t318 => (if t318 = 0 then ((pixel_Valid.f a1_0 a1_1 a1_2 a1_3).bind fun t319 => (if t319 = true then ((wand_isUnit.f a2).bind fun t320 => (if t320 = true then ((wand_isUnit.f a3).bind fun t321 => (wand_Soft.j0 k (!t321) a0_0 a0_1 l0_2 a1_0 a1_1 a1_2 a1_3 a2 a3)) else (wand_Soft.j0 k true a0_0 a0_1 l0_2 a1_0 a1_1 a1_2 a1_3 a2 a3))) else (wand_Soft.j0 k true a0_0 a0_1 l0_2 a1_0 a1_1 a1_2 a1_3 a2 a3))) else (some (0, 0, ([] : List Int), t318)))
theorem wand_Soft.mono_l : ∀ k, (∀ y0 y1 y2 y3 y4 y5 y6 y7 y8 y9, LeO (wand_Soft.j0 k y0 y1 y2 y3 y4 y5 y6 y7 y8 y9) (wand_Soft.j0 (k + 1) y0 y1 y2 y3 y4 y5 y6 y7 y8 y9))
 | 0 => fun _ _ _ _ _ _ _ _ _ _ r h => by simp [wand_Soft.j0] at h
 | k + 1 => by
  have ih0 := wand_Soft.mono_l k
  ·intro y0 y1 y2 y3 y4 y5 y6 y7 y8 y9
   unfold wand_Soft.j0
   repeat' first
   | (with_reducible exact ih0 _ _ _ _ _ _ _ _ _ _)
   | (with_reducible exact raster_Check.mono _ _ _ _)
   | (with_reducible exact wand_each__wand_Soft_1.mono _ _ _ _ _ _ _ _ _ _)
   | (with_reducible exact LeO.refl _)
   | (with_reducible exact LeO.none _)
   | (with_reducible refine LeO.ite ?_ ?_)
   | (with_reducible refine LeO.bind ?_ (fun _ => ?_))
   | exact ih0 _ _ _ _ _ _ _ _ _ _
   | exact raster_Check.mono _ _ _ _
   | exact wand_each__wand_Soft_1.mono _ _ _ _ _ _ _ _ _ _
   | exact LeO.none _
   | refine LeO.ite ?_ ?_
   | refine LeO.bind ?_ (fun _ => ?_)
theorem wand_Soft.mono : ∀ a0 a1 a2 a3 a4 a5 a6 a7 a8 k, LeO (wand_Soft.f k a0 a1 a2 a3 a4 a5 a6 a7 a8) (wand_Soft.f (k + 1) a0 a1 a2 a3 a4 a5 a6 a7 a8) := by
 intro a0 a1 a2 a3 a4 a5 a6 a7 a8 k
 have ih0 := wand_Soft.mono_l k
 unfold wand_Soft.f
 repeat' first
   | (with_reducible exact ih0 _ _ _ _ _ _ _ _ _ _)
   | (with_reducible exact raster_Check.mono _ _ _ _)
   | (with_reducible exact wand_each__wand_Soft_1.mono _ _ _ _ _ _ _ _ _ _)
   | (with_reducible exact LeO.refl _)
   | (with_reducible exact LeO.none _)
   | (with_reducible refine LeO.ite ?_ ?_)
   | (with_reducible refine LeO.bind ?_ (fun _ => ?_))
   | exact ih0 _ _ _ _ _ _ _ _ _ _
   | exact raster_Check.mono _ _ _ _
   | exact wand_each__wand_Soft_1.mono _ _ _ _ _ _ _ _ _ _
   | exact LeO.none _
   | refine LeO.ite ?_ ?_
   | refine LeO.bind ?_ (fun _ => ?_)
set_option maxHeartbeats 8000000 in
set_option maxRecDepth 100000 in
theorem wand_Soft.calls (k : Nat) (a0_0 : Int) (a0_1 : Int) (A0_2 : Option Addr) (c0_2 : Nat) (l0_2 : List (S37)) (a1_0 : Int) (a1_1 : Int) (a1_2 : Int) (a1_3 : Int) (a2 : Int) (a3 : Int) (r1 : Int) (r2 : Int) (r3 : List Int) (r4 : Int) (w : World) (hr0_2 : Kd.C k37 w A0_2 l0_2.length l0_2) (hc0_2 : l0_2.length ≤ c0_2) (h : wand_Soft.f k a0_0 a0_1 l0_2 a1_0 a1_1 a1_2 a1_3 a2 a3 = some (r1, r2, r3, r4)) :
  Calls Try.prog 15 #[.agg #[.int .i64 a0_0, .int .i64 a0_1, .slice A0_2 l0_2.length c0_2], .agg #[.int .i64 a1_0, .int .i64 a1_1, .int .i64 a1_2, .int .i64 a1_3], .int .i64 a2, .int .i64 a3] w fun e w' => ∃ v2_ : Value, e = .returned (.tuple #[.agg #[.int .i64 r1, .int .i64 r2, v2_], .int .i64 r4]) ∧ Kd.R (Kd.int .i64) 3 w' w.heap.size (fun _ => True) v2_ r3 ∧ Below w.heap.size w w' := by
 have hu24 := Try.underlying24
 have hu37 := Try.underlying37
 have hu29 := Try.underlying29
 have HR0_2 := Aside0.mk hr0_2
 have HC0_2 := Aside0.mk hc0_2
 clear hr0_2 hc0_2
 have HB := Aside0.mk (Below.refl w.heap.size w)
 have H : ((raster_Check.f k a0_0 a0_1 l0_2).bind fun t318 => (if t318 = 0 then ((pixel_Valid.f a1_0 a1_1 a1_2 a1_3).bind fun t319 => (if t319 = true then ((wand_isUnit.f a2).bind fun t320 => (if t320 = true then ((wand_isUnit.f a3).bind fun t321 => (wand_Soft.j0 k (!t321) a0_0 a0_1 l0_2 a1_0 a1_1 a1_2 a1_3 a2 a3)) else (wand_Soft.j0 k true a0_0 a0_1 l0_2 a1_0 a1_1 a1_2 a1_3 a2 a3))) else (wand_Soft.j0 k true a0_0 a0_1 l0_2 a1_0 a1_1 a1_2 a1_3 a2 a3))) else (some (0, 0, ([] : List Int), t318)))) = some (r1, r2, r3, r4) := h
 clear h
 replace H := Option.bind_eq_some_iff.mp H
 obtain ⟨t318, A50, H⟩ := H
 replace H : (if t318 = 0 then ((pixel_Valid.f a1_0 a1_1 a1_2 a1_3).bind fun t319 => (if t319 = true then ((wand_isUnit.f a2).bind fun t320 => (if t320 = true then ((wand_isUnit.f a3).bind fun t321 => (wand_Soft.j0 k (!t321) a0_0 a0_1 l0_2 a1_0 a1_1 a1_2 a1_3 a2 a3)) else (wand_Soft.j0 k true a0_0 a0_1 l0_2 a1_0 a1_1 a1_2 a1_3 a2 a3))) else (wand_Soft.j0 k true a0_0 a0_1 l0_2 a1_0 a1_1 a1_2 a1_3 a2 a3))) else (some (0, 0, ([] : List Int), t318))) = some (r1, r2, r3, r4) := H
 have A5 := Aside0.mk A50
 clear A50
 by_cases c6 : t318 = 0
 ·rw [if_pos c6] at H
  have c6b0 : (t318 == 0) = true := beq_iff_eq.mpr c6
  have c6b1 : (t318 != 0) = false := bne_eq_false_iff_eq.mpr c6
  clear c6
  have HC7 := Aside0.mk H
  clear H
  go_enter Try.func15, Try.ntmps15
  go_upto_region 4 with (first | ((with_reducible refine gate_dst (N := 4) rfl ?_); refine box_event ?hg (N := 4) ?hd (cs := #[.int .i64 a0_0, .int .i64 a0_1, .slice A0_2 l0_2.length c0_2]) (t := 24) ?hr ?_; (case hd => rfl); (case hg => rfl); (case hr => first | (go_simp; done) | (go_simp; rfl)); intro gb313 hg w8 hbox hb; have GW313 := zg HB hg; have GE313 := zg HB hg; have n0_ := Aside0.mk (hbox); replace HB := zb HB hb; have BK313 := n0_; clear n0_; clear hb hbox hg) | ((with_reducible refine gate_dst (N := 5) rfl ?_); refine box_event ?hg (N := 5) ?hd (cs := #[.int .i64 a1_0, .int .i64 a1_1, .int .i64 a1_2, .int .i64 a1_3]) (t := 37) ?hr ?_; (case hd => rfl); (case hg => rfl); (case hr => first | (go_simp; done) | (go_simp; rfl)); intro gb314 hg w9 hbox hb; have GW314 := zg HB hg; have GE314 := zg HB hg; have NB313_314 := zn BK313 hg; have NB314_313 := zn' BK313 hg; have n0_ := Aside0.mk (hbox); replace BK313 := zk BK313 hb; replace HB := zb HB hb; have BK314 := n0_; clear n0_; clear hb hbox hg) | ((with_reducible refine gate_dst (N := 6) rfl ?_); refine box_event ?hg (N := 6) ?hd (cs := #[.int .i64 a2]) (t := 3) ?hr ?_; (case hd => rfl); (case hg => rfl); (case hr => first | (go_simp; done) | (go_simp; rfl)); intro gb315 hg w10 hbox hb; have GW315 := zg HB hg; have GE315 := zg HB hg; have NB313_315 := zn BK313 hg; have NB315_313 := zn' BK313 hg; have NB314_315 := zn BK314 hg; have NB315_314 := zn' BK314 hg; have n0_ := Aside0.mk (hbox); replace BK313 := zk BK313 hb; replace BK314 := zk BK314 hb; replace HB := zb HB hb; have BK315 := n0_; clear n0_; clear hb hbox hg) | ((with_reducible refine gate_dst (N := 7) rfl ?_); refine box_event ?hg (N := 7) ?hd (cs := #[.int .i64 a3]) (t := 3) ?hr ?_; (case hd => rfl); (case hg => rfl); (case hr => first | (go_simp; done) | (go_simp; rfl)); intro gb316 hg w11 hbox hb; have GW316 := zg HB hg; have GE316 := zg HB hg; have NB313_316 := zn BK313 hg; have NB316_313 := zn' BK313 hg; have NB314_316 := zn BK314 hg; have NB316_314 := zn' BK314 hg; have NB315_316 := zn BK315 hg; have NB316_315 := zn' BK315 hg; have n0_ := Aside0.mk (hbox); replace BK313 := zk BK313 hb; replace BK314 := zk BK314 hb; replace BK315 := zk BK315 hb; replace HB := zb HB hb; have BK316 := n0_; clear n0_; clear hb hbox hg) | ((with_reducible refine gate_dst (N := 8) rfl ?_); refine box_event ?hg (N := 8) ?hd (cs := #[.int .i64 0, .int .i64 0, .slice none 0 0]) (t := 29) ?hr ?_; (case hd => rfl); (case hg => rfl); (case hr => first | (go_simp; done) | (go_simp; rfl)); intro gb317 hg w12 hbox hb; have GW317 := zg HB hg; have GE317 := zg HB hg; have NB313_317 := zn BK313 hg; have NB317_313 := zn' BK313 hg; have NB314_317 := zn BK314 hg; have NB317_314 := zn' BK314 hg; have NB315_317 := zn BK315 hg; have NB317_315 := zn' BK315 hg; have NB316_317 := zn BK316 hg; have NB317_316 := zn' BK316 hg; have n0_ := Aside0.mk (hbox); replace BK313 := zk BK313 hb; replace BK314 := zk BK314 hb; replace BK315 := zk BK315 hb; replace BK316 := zk BK316 hb; replace HB := zb HB hb; have BK317 := n0_; clear n0_; clear hb hbox hg; obtain ⟨hcz13_0, hcz13_1, hcz13_2, hfz13_0, hfz13_1, hfz13_2⟩ := zq3 BK313) | ((with_reducible refine gate_callee (f := 22) rfl ?_); refine goesL_ (some 12) rfl rfl Try.func22 (by kernel_rfl) rfl #[.agg #[.int .i64 a0_0, .int .i64 a0_1, .slice A0_2 l0_2.length c0_2]] rfl (by (try simp only [List.map_toArray, List.map_cons, List.map_nil]); first | done | rfl | (simp only [List.length_drop, List.length_take]; rfl)) ?_; (with_reducible refine (raster_Check.calls k a0_0 a0_1 _ _ l0_2 t318 _ ?side1 ?side2 A5.out).mono ?_); (case side1 => repeat (first | exact (Kd.C_below HR0_2.out HB.out) | (with_reducible refine Kd.C_alloc ?_ _) | (with_reducible refine Kd.C_drewN ?_ _) | (with_reducible refine Kd.C_drew ?_))); (case side2 => exact HC0_2.out); rintro e w14 ⟨rfl, hb⟩; refine ⟨_, rfl, ?_⟩; replace BK313 := zk BK313 hb; replace BK314 := zk BK314 hb; replace BK315 := zk BK315 hb; replace BK316 := zk BK316 hb; replace BK317 := zk BK317 hb; replace HB := zb HB hb; (try clear hb); (try clear hb2); (try clear hk); (try clear hi)))
  (try simp only [Act.put, sA, sB, sC])
  go_cut [29] (fun v29 wc => ∃ (kq : Nat) (x29_6 : Bool), v29 = .bool x29_6 ∧ Aside0 (wand_Soft.j0 kq x29_6 a0_0 a0_1 l0_2 a1_0 a1_1 a1_2 a1_3 a2 a3 = some (r1, r2, r3, r4)) ∧ Aside0 (kq ≤ k) ∧ Aside0 (wc.heap[gb313]? = some (.cells #[.int .i64 a0_0, .int .i64 a0_1, (.slice A0_2 l0_2.length c0_2)] 24 (0, 0))) ∧ Aside0 (wc.heap[gb314]? = some (.cells #[.int .i64 a1_0, .int .i64 a1_1, .int .i64 a1_2, .int .i64 a1_3] 37 (0, 0))) ∧ Aside0 (wc.heap[gb315]? = some (.cells #[.int .i64 a2] 3 (0, 0))) ∧ Aside0 (wc.heap[gb316]? = some (.cells #[.int .i64 a3] 3 (0, 0))) ∧ Aside0 (wc.heap[gb317]? = some (.cells #[.int .i64 0, .int .i64 0, (.slice none 0 0)] 29 (0, 0))) ∧ Aside0 (Below w.heap.size w wc))
  case first =>
   have H := HC7.out
   clear HC7
   replace H := Option.bind_eq_some_iff.mp H
   obtain ⟨t319, A150, H⟩ := H
   replace H : (if t319 = true then ((wand_isUnit.f a2).bind fun t320 => (if t320 = true then ((wand_isUnit.f a3).bind fun t321 => (wand_Soft.j0 k (!t321) a0_0 a0_1 l0_2 a1_0 a1_1 a1_2 a1_3 a2 a3)) else (wand_Soft.j0 k true a0_0 a0_1 l0_2 a1_0 a1_1 a1_2 a1_3 a2 a3))) else (wand_Soft.j0 k true a0_0 a0_1 l0_2 a1_0 a1_1 a1_2 a1_3 a2 a3)) = some (r1, r2, r3, r4) := H
   have A15 := Aside0.mk A150
   clear A150
   by_cases c16 : t319 = true
   ·subst c16
    have H1 : ((wand_isUnit.f a2).bind fun t320 => (if t320 = true then ((wand_isUnit.f a3).bind fun t321 => (wand_Soft.j0 k (!t321) a0_0 a0_1 l0_2 a1_0 a1_1 a1_2 a1_3 a2 a3)) else (wand_Soft.j0 k true a0_0 a0_1 l0_2 a1_0 a1_1 a1_2 a1_3 a2 a3))) = some (r1, r2, r3, r4) := by rw [if_pos rfl] at H; exact H
    clear H
    have H := H1
    clear H1
    replace H := Option.bind_eq_some_iff.mp H
    obtain ⟨t320, A170, H⟩ := H
    replace H : (if t320 = true then ((wand_isUnit.f a3).bind fun t321 => (wand_Soft.j0 k (!t321) a0_0 a0_1 l0_2 a1_0 a1_1 a1_2 a1_3 a2 a3)) else (wand_Soft.j0 k true a0_0 a0_1 l0_2 a1_0 a1_1 a1_2 a1_3 a2 a3)) = some (r1, r2, r3, r4) := H
    have A17 := Aside0.mk A170
    clear A170
    by_cases c18 : t320 = true
    ·subst c18
     have H1 : ((wand_isUnit.f a3).bind fun t321 => (wand_Soft.j0 k (!t321) a0_0 a0_1 l0_2 a1_0 a1_1 a1_2 a1_3 a2 a3)) = some (r1, r2, r3, r4) := by rw [if_pos rfl] at H; exact H
     clear H
     have H := H1
     clear H1
     replace H := Option.bind_eq_some_iff.mp H
     obtain ⟨t321, A190, H⟩ := H
     replace H : (wand_Soft.j0 k (!t321) a0_0 a0_1 l0_2 a1_0 a1_1 a1_2 a1_3 a2 a3) = some (r1, r2, r3, r4) := H
     have A19 := Aside0.mk A190
     clear A190
     have H' := Aside0.mk H
     clear H
     obtain ⟨hcz20_0, hcz20_1, hcz20_2, hcz20_3, hfz20_0, hfz20_1, hfz20_2, hfz20_3⟩ := zq4 BK314
     go_wp2_with (first | ((with_reducible refine gate_callee (f := 30) rfl ?_); refine goesL_ (some 18) rfl rfl Try.func30 (by kernel_rfl) rfl #[.agg #[.int .i64 a1_0, .int .i64 a1_1, .int .i64 a1_2, .int .i64 a1_3]] rfl (by (try simp only [List.map_toArray, List.map_cons, List.map_nil]); first | done | rfl | (simp only [List.length_drop, List.length_take]; rfl)) ?_; (with_reducible refine (pixel_Valid.calls a1_0 a1_1 a1_2 a1_3 true _ A15.out).mono ?_); rintro e w21 ⟨rfl, hb⟩; refine ⟨_, rfl, ?_⟩; replace BK313 := zk BK313 hb; replace BK314 := zk BK314 hb; replace BK315 := zk BK315 hb; replace BK316 := zk BK316 hb; replace BK317 := zk BK317 hb; replace HB := zb HB hb; (try clear hb); (try clear hb2); (try clear hk); (try clear hi); obtain ⟨hcz22_0, hfz22_0⟩ := zq1 BK315) | (go_at_call 23; (with_reducible refine (wand_isUnit.calls a2 true _ A17.out).mono ?_); rintro e w' ⟨rfl, ⟨nd, rfl⟩⟩; obtain ⟨hcz23_0, hfz23_0⟩ := zq1 BK316) | (go_at_call 23; (with_reducible refine (wand_isUnit.calls a3 t321 _ A19.out).mono ?_); rintro e w' ⟨rfl, ⟨nd, rfl⟩⟩))
     go_meet
     case rel => exact ⟨_, (!t321), (by first | rfl | (simp; done) | (simp [*]; done)), H', ⟨by first | omega | exact Nat.le_refl _⟩, ⟨by exact zk0 BK313⟩, ⟨by exact zk0 BK314⟩, ⟨by exact zk0 BK315⟩, ⟨by exact zk0 BK316⟩, ⟨by exact zk0 BK317⟩, ⟨by exact zb0 HB⟩⟩
    ·replace c18 := Bool.eq_false_iff.mpr c18
     subst c18
     have H1 : (wand_Soft.j0 k true a0_0 a0_1 l0_2 a1_0 a1_1 a1_2 a1_3 a2 a3) = some (r1, r2, r3, r4) := by rw [if_neg (show ¬ (false = true) by decide)] at H; exact H
     clear H
     have H := H1
     clear H1
     have H' := Aside0.mk H
     clear H
     obtain ⟨hcz24_0, hcz24_1, hcz24_2, hcz24_3, hfz24_0, hfz24_1, hfz24_2, hfz24_3⟩ := zq4 BK314
     go_wp2_with (first | ((with_reducible refine gate_callee (f := 30) rfl ?_); refine goesL_ (some 18) rfl rfl Try.func30 (by kernel_rfl) rfl #[.agg #[.int .i64 a1_0, .int .i64 a1_1, .int .i64 a1_2, .int .i64 a1_3]] rfl (by (try simp only [List.map_toArray, List.map_cons, List.map_nil]); first | done | rfl | (simp only [List.length_drop, List.length_take]; rfl)) ?_; (with_reducible refine (pixel_Valid.calls a1_0 a1_1 a1_2 a1_3 true _ A15.out).mono ?_); rintro e w25 ⟨rfl, hb⟩; refine ⟨_, rfl, ?_⟩; replace BK313 := zk BK313 hb; replace BK314 := zk BK314 hb; replace BK315 := zk BK315 hb; replace BK316 := zk BK316 hb; replace BK317 := zk BK317 hb; replace HB := zb HB hb; (try clear hb); (try clear hb2); (try clear hk); (try clear hi); obtain ⟨hcz26_0, hfz26_0⟩ := zq1 BK315) | (go_at_call 23; (with_reducible refine (wand_isUnit.calls a2 false _ A17.out).mono ?_); rintro e w' ⟨rfl, ⟨nd, rfl⟩⟩))
     go_meet
     case rel => exact ⟨_, (true), (by first | rfl | (simp; done) | (simp [*]; done)), H', ⟨by first | omega | exact Nat.le_refl _⟩, ⟨by exact zk0 BK313⟩, ⟨by exact zk0 BK314⟩, ⟨by exact zk0 BK315⟩, ⟨by exact zk0 BK316⟩, ⟨by exact zk0 BK317⟩, ⟨by exact zb0 HB⟩⟩
   ·replace c16 := Bool.eq_false_iff.mpr c16
    subst c16
    have H1 : (wand_Soft.j0 k true a0_0 a0_1 l0_2 a1_0 a1_1 a1_2 a1_3 a2 a3) = some (r1, r2, r3, r4) := by rw [if_neg (show ¬ (false = true) by decide)] at H; exact H
    clear H
    have H := H1
    clear H1
    have H' := Aside0.mk H
    clear H
    obtain ⟨hcz27_0, hcz27_1, hcz27_2, hcz27_3, hfz27_0, hfz27_1, hfz27_2, hfz27_3⟩ := zq4 BK314
    go_wp2_with (first | ((with_reducible refine gate_callee (f := 30) rfl ?_); refine goesL_ (some 18) rfl rfl Try.func30 (by kernel_rfl) rfl #[.agg #[.int .i64 a1_0, .int .i64 a1_1, .int .i64 a1_2, .int .i64 a1_3]] rfl (by (try simp only [List.map_toArray, List.map_cons, List.map_nil]); first | done | rfl | (simp only [List.length_drop, List.length_take]; rfl)) ?_; (with_reducible refine (pixel_Valid.calls a1_0 a1_1 a1_2 a1_3 false _ A15.out).mono ?_); rintro e w28 ⟨rfl, hb⟩; refine ⟨_, rfl, ?_⟩; replace BK313 := zk BK313 hb; replace BK314 := zk BK314 hb; replace BK315 := zk BK315 hb; replace BK316 := zk BK316 hb; replace BK317 := zk BK317 hb; replace HB := zb HB hb; (try clear hb); (try clear hb2); (try clear hk); (try clear hi)))
    go_meet
    case rel => exact ⟨_, (true), (by first | rfl | (simp; done) | (simp [*]; done)), H', ⟨by first | omega | exact Nat.le_refl _⟩, ⟨by exact zk0 BK313⟩, ⟨by exact zk0 BK314⟩, ⟨by exact zk0 BK315⟩, ⟨by exact zk0 BK316⟩, ⟨by exact zk0 BK317⟩, ⟨by exact zb0 HB⟩⟩
  case rest =>
   clear HC7
   try clear c1
   try clear q1
   try clear c2
   try clear p2
   try clear c3
   try clear q3
   try clear q4
   try clear c6
   try clear c6b0
   try clear c6b1
   try clear c15
   try clear c16
   try clear c18
   try clear c22
   try clear hcz13_0
   try clear hcz13_1
   try clear hcz13_2
   try clear hcz20_0
   try clear hcz20_1
   try clear hcz20_2
   try clear hcz20_3
   try clear hcz22_0
   try clear hcz23_0
   try clear hcz24_0
   try clear hcz24_1
   try clear hcz24_2
   try clear hcz24_3
   try clear hcz26_0
   try clear hcz27_0
   try clear hcz27_1
   try clear hcz27_2
   try clear hcz27_3
   try clear hfz13_0
   try clear hfz13_1
   try clear hfz13_2
   try clear hfz20_0
   try clear hfz20_1
   try clear hfz20_2
   try clear hfz20_3
   try clear hfz22_0
   try clear hfz23_0
   try clear hfz24_0
   try clear hfz24_1
   try clear hfz24_2
   try clear hfz24_3
   try clear hfz26_0
   try clear hfz27_0
   try clear hfz27_1
   try clear hfz27_2
   try clear hfz27_3
   obtain ⟨kq, x29_6, rfl, HA, HJ6, BK313, BK314, BK315, BK316, BK317, HB⟩ := hcut
   cases kq with
   | zero => exact absurd HA.out (by simp [wand_Soft.j0])
   | succ kj6 =>
    have H := HA.out
    clear HA
    simp only [wand_Soft.j0] at H
    by_cases c29 : x29_6 = true
    ·subst c29
     have H1 : (some (0, 0, ([] : List Int), 2)) = some (r1, r2, r3, r4) := by rw [if_pos rfl] at H; exact H
     clear H
     have H := H1
     clear H1
     simp only [Option.some.injEq, Prod.mk.injEq] at H
     obtain ⟨rfl, rfl, rfl, rfl⟩ := H
     have hnb30 := NB317_313.out
     have hnc30 := NB313_317.out
     have hnb31 := NB317_314.out
     have hnc31 := NB314_317.out
     have hnb32 := NB317_315.out
     have hnc32 := NB315_317.out
     have hnb33 := NB317_316.out
     have hnc33 := NB316_317.out
     obtain ⟨hcz34_0, hcz34_1, hcz34_2, hfz34_0, hfz34_1, hfz34_2⟩ := zq3 BK317
     go_wp2
     refine bodyPost_ret (results_ct rfl _ _ gb317 29 #[.int .i64 0, .int .i64 0, .slice none 0 0] (0, 0) _ rfl (by exact zp BK317 rfl) Try.underlying29 rfl (by kernel_rfl)) rfl ?_
     exact ⟨_, by first | rfl | (simp [errW_none, errW_some] <;> rfl) | (simp [*, errW_none, errW_some] <;> rfl), by first | exact Kd.R_nil _ _ _ _ _ | exact Kd.N_nil _ _ _ _ _ | exact Kd.V_nil _ _ _ _ _ | exact Kd.Q_nil _ _ _ _ _ | exact Kd.S_nil _ _ _ _ _, by exact zbo HB GE317⟩
    ·replace c29 := Bool.eq_false_iff.mpr c29
     subst c29
     have H1 : (if a2 ≥ a3 then (some (0, 0, ([] : List Int), 24)) else ((wand_each__wand_Soft_1.f kj6 a0_0 a0_1 l0_2 a1_0 a1_1 a1_2 a1_3 a2 a3).bind fun bt322 => (some (bt322.1, bt322.2.1, bt322.2.2, 0)))) = some (r1, r2, r3, r4) := by rw [if_neg (show ¬ (false = true) by decide)] at H; exact H
     clear H
     have H := H1
     clear H1
     by_cases c35 : a2 ≥ a3
     ·rw [if_pos c35] at H
      have c35b0 : decide (a3 ≤ a2) = true := decide_eq_true c35
      clear c35
      simp only [Option.some.injEq, Prod.mk.injEq] at H
      obtain ⟨rfl, rfl, rfl, rfl⟩ := H
      have hnb36 := NB315_313.out
      have hnc36 := NB313_315.out
      have hnb37 := NB315_314.out
      have hnc37 := NB314_315.out
      have hnb38 := NB315_316.out
      have hnc38 := NB316_315.out
      have hnb39 := NB315_317.out
      have hnc39 := NB317_315.out
      obtain ⟨hcz40_0, hfz40_0⟩ := zq1 BK315
      have hnb41 := NB316_313.out
      have hnc41 := NB313_316.out
      have hnb42 := NB316_314.out
      have hnc42 := NB314_316.out
      have hnb43 := NB316_317.out
      have hnc43 := NB317_316.out
      obtain ⟨hcz44_0, hfz44_0⟩ := zq1 BK316
      have hnb45 := NB317_313.out
      have hnc45 := NB313_317.out
      have hnb46 := NB317_314.out
      have hnc46 := NB314_317.out
      obtain ⟨hcz47_0, hcz47_1, hcz47_2, hfz47_0, hfz47_1, hfz47_2⟩ := zq3 BK317
      go_wp2
      refine bodyPost_ret (results_ct rfl _ _ gb317 29 #[.int .i64 0, .int .i64 0, .slice none 0 0] (0, 0) _ rfl (by exact zp BK317 rfl) Try.underlying29 rfl (by kernel_rfl)) rfl ?_
      exact ⟨_, by first | rfl | (simp [errW_none, errW_some] <;> rfl) | (simp [*, errW_none, errW_some] <;> rfl), by first | exact Kd.R_nil _ _ _ _ _ | exact Kd.N_nil _ _ _ _ _ | exact Kd.V_nil _ _ _ _ _ | exact Kd.Q_nil _ _ _ _ _ | exact Kd.S_nil _ _ _ _ _, by exact zbo HB GE317⟩
     ·rw [if_neg c35] at H
      have c35b0 : decide (a3 ≤ a2) = false := decide_eq_false c35
      clear c35
      replace H := Option.bind_eq_some_iff.mp H
      obtain ⟨⟨t322, t323, t324⟩, A480, H⟩ := H
      replace H : (some (t322, t323, t324, 0)) = some (r1, r2, r3, r4) := H
      have A48 := Aside0.mk A480
      clear A480
      simp only [Option.some.injEq, Prod.mk.injEq] at H
      obtain ⟨rfl, rfl, rfl, rfl⟩ := H
      have hnb49 := NB315_313.out
      have hnc49 := NB313_315.out
      have hnb50 := NB315_314.out
      have hnc50 := NB314_315.out
      have hnb51 := NB315_316.out
      have hnc51 := NB316_315.out
      have hnb52 := NB315_317.out
      have hnc52 := NB317_315.out
      obtain ⟨hcz53_0, hfz53_0⟩ := zq1 BK315
      have hnb54 := NB316_313.out
      have hnc54 := NB313_316.out
      have hnb55 := NB316_314.out
      have hnc55 := NB314_316.out
      have hnb56 := NB316_317.out
      have hnc56 := NB317_316.out
      obtain ⟨hcz57_0, hfz57_0⟩ := zq1 BK316
      have hnb58 := NB313_314.out
      have hnc58 := NB314_313.out
      have hnb59 := NB313_317.out
      have hnc59 := NB317_313.out
      obtain ⟨hcz60_0, hcz60_1, hcz60_2, hfz60_0, hfz60_1, hfz60_2⟩ := zq3 BK313
      go_wp2_with (first | ((with_reducible refine gate_callee (f := 31) rfl ?_); refine goesL_ (some 37) rfl rfl Try.func31 (by kernel_rfl) rfl #[.agg #[.int .i64 a0_0, .int .i64 a0_1, .slice A0_2 l0_2.length c0_2], .func (.func 35) #[] #[.pointer (some ⟨gb314, 0, none⟩), .pointer (some ⟨gb315, 0, none⟩), .pointer (some ⟨gb316, 0, none⟩)]] rfl (by (try simp only [List.map_toArray, List.map_cons, List.map_nil]); first | done | rfl | (simp only [List.length_drop, List.length_take]; rfl)) ?_; (with_reducible refine (wand_each__wand_Soft_1.calls kj6 a0_0 a0_1 _ _ l0_2 gb314 gb315 gb316 a1_0 a1_1 a1_2 a1_3 a2 a3 t322 t323 t324 _ ?side1 ?side2 ?side3 ?side4 ?side5 A48.out).mono ?_); (case side1 => repeat (first | exact (Kd.C_below HR0_2.out HB.out) | (with_reducible refine Kd.C_alloc ?_ _) | (with_reducible refine Kd.C_drewN ?_ _) | (with_reducible refine Kd.C_drew ?_))); (case side2 => exact HC0_2.out); (case side3 => exact zk0 BK314); (case side4 => exact zk0 BK315); (case side5 => exact zk0 BK316); rintro e w61 ⟨v325, rfl, ho0, hb⟩; refine ⟨_, rfl, ?_⟩; have n0_ := Aside0.mk (Kd.R_lower (Kd.R_newB (Kd.R_newB ho0 (zk0 BK315)) (zk0 BK316)) (below_size (by exact zb0 HB))); replace BK313 := zk BK313 hb; replace BK314 := zk BK314 hb; replace BK315 := zk BK315 hb; replace BK316 := zk BK316 hb; replace BK317 := zk BK317 hb; replace HB := zb HB hb; have HO326 := n0_; clear n0_; (try clear hb); (try clear hb2); (try clear hk); (try clear hi); (try clear ho0); have hnb62 := NB317_314.out; have hnc62 := NB314_317.out; obtain ⟨hcz63_0, hcz63_1, hcz63_2, hfz63_0, hfz63_1, hfz63_2⟩ := zq3 BK317; obtain ⟨Ao64, co64, eo64⟩ := Kd.R_slice HO326.out; subst eo64))
      refine bodyPost_ret (results_ct rfl _ _ gb317 29 #[.int .i64 t322, .int .i64 t323, .slice Ao64 t324.length co64] (0, 0) _ rfl (by exact zp BK317 rfl) Try.underlying29 rfl (by kernel_rfl)) rfl ?_
      exact ⟨_, by first | rfl | (simp [errW_none, errW_some] <;> rfl) | (simp [*, errW_none, errW_some] <;> rfl), by (with_reducible repeat (first | apply Kd.R_alloc | apply Kd.R_drewN | apply Kd.R_drew)); exact Kd.R_mono (Kd.R_far (p := ⟨gb317, 2, none⟩) (Kd.R_far (p := ⟨gb317, 1, none⟩) (Kd.R_far (p := ⟨gb317, 0, none⟩) (Kd.R_types HO326.out BK317.out (by decide)) (fun _ hk => hk.2) (.int .i64 t322)) (fun _ hk => hk.2) (.int .i64 t323)) (fun _ hk => hk.2) (.slice Ao64 t324.length co64)) (fun _ hk => trivial), by exact zbo HB GE317⟩
 ·rw [if_neg c6] at H
  have c6b0 : (t318 == 0) = false := beq_eq_false_iff_ne.mpr c6
  have c6b1 : (t318 != 0) = true := bne_iff_ne.mpr c6
  simp only [Option.some.injEq, Prod.mk.injEq] at H
  obtain ⟨rfl, rfl, rfl, rfl⟩ := H
  go_enter Try.func15, Try.ntmps15
  go_wp2_with (first | ((with_reducible refine gate_dst (N := 4) rfl ?_); refine box_event ?hg (N := 4) ?hd (cs := #[.int .i64 a0_0, .int .i64 a0_1, .slice A0_2 l0_2.length c0_2]) (t := 24) ?hr ?_; (case hd => rfl); (case hg => rfl); (case hr => first | (go_simp; done) | (go_simp; rfl)); intro gb313 hg w65 hbox hb; have GW313 := zg HB hg; have GE313 := zg HB hg; have n0_ := Aside0.mk (hbox); replace HB := zb HB hb; have BK313 := n0_; clear n0_; clear hb hbox hg) | ((with_reducible refine gate_dst (N := 5) rfl ?_); refine box_event ?hg (N := 5) ?hd (cs := #[.int .i64 a1_0, .int .i64 a1_1, .int .i64 a1_2, .int .i64 a1_3]) (t := 37) ?hr ?_; (case hd => rfl); (case hg => rfl); (case hr => first | (go_simp; done) | (go_simp; rfl)); intro gb314 hg w66 hbox hb; have GW314 := zg HB hg; have GE314 := zg HB hg; have NB313_314 := zn BK313 hg; have NB314_313 := zn' BK313 hg; have n0_ := Aside0.mk (hbox); replace BK313 := zk BK313 hb; replace HB := zb HB hb; have BK314 := n0_; clear n0_; clear hb hbox hg) | ((with_reducible refine gate_dst (N := 6) rfl ?_); refine box_event ?hg (N := 6) ?hd (cs := #[.int .i64 a2]) (t := 3) ?hr ?_; (case hd => rfl); (case hg => rfl); (case hr => first | (go_simp; done) | (go_simp; rfl)); intro gb315 hg w67 hbox hb; have GW315 := zg HB hg; have GE315 := zg HB hg; have NB313_315 := zn BK313 hg; have NB315_313 := zn' BK313 hg; have NB314_315 := zn BK314 hg; have NB315_314 := zn' BK314 hg; have n0_ := Aside0.mk (hbox); replace BK313 := zk BK313 hb; replace BK314 := zk BK314 hb; replace HB := zb HB hb; have BK315 := n0_; clear n0_; clear hb hbox hg) | ((with_reducible refine gate_dst (N := 7) rfl ?_); refine box_event ?hg (N := 7) ?hd (cs := #[.int .i64 a3]) (t := 3) ?hr ?_; (case hd => rfl); (case hg => rfl); (case hr => first | (go_simp; done) | (go_simp; rfl)); intro gb316 hg w68 hbox hb; have GW316 := zg HB hg; have GE316 := zg HB hg; have NB313_316 := zn BK313 hg; have NB316_313 := zn' BK313 hg; have NB314_316 := zn BK314 hg; have NB316_314 := zn' BK314 hg; have NB315_316 := zn BK315 hg; have NB316_315 := zn' BK315 hg; have n0_ := Aside0.mk (hbox); replace BK313 := zk BK313 hb; replace BK314 := zk BK314 hb; replace BK315 := zk BK315 hb; replace HB := zb HB hb; have BK316 := n0_; clear n0_; clear hb hbox hg) | ((with_reducible refine gate_dst (N := 8) rfl ?_); refine box_event ?hg (N := 8) ?hd (cs := #[.int .i64 0, .int .i64 0, .slice none 0 0]) (t := 29) ?hr ?_; (case hd => rfl); (case hg => rfl); (case hr => first | (go_simp; done) | (go_simp; rfl)); intro gb317 hg w69 hbox hb; have GW317 := zg HB hg; have GE317 := zg HB hg; have NB313_317 := zn BK313 hg; have NB317_313 := zn' BK313 hg; have NB314_317 := zn BK314 hg; have NB317_314 := zn' BK314 hg; have NB315_317 := zn BK315 hg; have NB317_315 := zn' BK315 hg; have NB316_317 := zn BK316 hg; have NB317_316 := zn' BK316 hg; have n0_ := Aside0.mk (hbox); replace BK313 := zk BK313 hb; replace BK314 := zk BK314 hb; replace BK315 := zk BK315 hb; replace BK316 := zk BK316 hb; replace HB := zb HB hb; have BK317 := n0_; clear n0_; clear hb hbox hg; have hnb70 := NB313_314.out; have hnc70 := NB314_313.out; have hnb71 := NB313_315.out; have hnc71 := NB315_313.out; have hnb72 := NB313_316.out; have hnc72 := NB316_313.out; have hnb73 := NB313_317.out; have hnc73 := NB317_313.out; obtain ⟨hcz74_0, hcz74_1, hcz74_2, hfz74_0, hfz74_1, hfz74_2⟩ := zq3 BK313) | ((with_reducible refine gate_callee (f := 22) rfl ?_); refine goesL_ (some 12) rfl rfl Try.func22 (by kernel_rfl) rfl #[.agg #[.int .i64 a0_0, .int .i64 a0_1, .slice A0_2 l0_2.length c0_2]] rfl (by (try simp only [List.map_toArray, List.map_cons, List.map_nil]); first | done | rfl | (simp only [List.length_drop, List.length_take]; rfl)) ?_; (with_reducible refine (raster_Check.calls k a0_0 a0_1 _ _ l0_2 t318 _ ?side1 ?side2 A5.out).mono ?_); (case side1 => repeat (first | exact (Kd.C_below HR0_2.out HB.out) | (with_reducible refine Kd.C_alloc ?_ _) | (with_reducible refine Kd.C_drewN ?_ _) | (with_reducible refine Kd.C_drew ?_))); (case side2 => exact HC0_2.out); rintro e w75 ⟨rfl, hb⟩; refine ⟨_, rfl, ?_⟩; replace BK313 := zk BK313 hb; replace BK314 := zk BK314 hb; replace BK315 := zk BK315 hb; replace BK316 := zk BK316 hb; replace BK317 := zk BK317 hb; replace HB := zb HB hb; (try clear hb); (try clear hb2); (try clear hk); (try clear hi); have hnb76 := NB317_314.out; have hnc76 := NB314_317.out; have hnb77 := NB317_315.out; have hnc77 := NB315_317.out; have hnb78 := NB317_316.out; have hnc78 := NB316_317.out; obtain ⟨hcz79_0, hcz79_1, hcz79_2, hfz79_0, hfz79_1, hfz79_2⟩ := zq3 BK317))
  refine bodyPost_ret (results_ct rfl _ _ gb317 29 #[.int .i64 0, .int .i64 0, .slice none 0 0] (0, 0) _ rfl (by exact zp BK317 rfl) Try.underlying29 rfl (by kernel_rfl)) rfl ?_
  exact ⟨_, by first | rfl | (simp [errW_none, errW_some] <;> rfl) | (simp [*, errW_none, errW_some] <;> rfl), by first | exact Kd.R_nil _ _ _ _ _ | exact Kd.N_nil _ _ _ _ _ | exact Kd.V_nil _ _ _ _ _ | exact Kd.Q_nil _ _ _ _ _ | exact Kd.S_nil _ _ _ _ _, by exact zbo HB GE317⟩

/-! ### wand_Opaque_1: function 38 -/
def wand_Opaque_1.f (a0_0 : Int) (a0_1 : Int) (a0_2 : Int) (a0_3 : Int) : Option (Int) := some a0_3
set_option maxHeartbeats 8000000 in
set_option maxRecDepth 100000 in
theorem wand_Opaque_1.calls (a0_0 : Int) (a0_1 : Int) (a0_2 : Int) (a0_3 : Int) (r : Int) (w : World) (h : wand_Opaque_1.f a0_0 a0_1 a0_2 a0_3 = some r) :
  Calls Try.prog 38 #[.agg #[.int .i64 a0_0, .int .i64 a0_1, .int .i64 a0_2, .int .i64 a0_3]] w fun e w' => e = .returned (.int .i64 r) ∧ Below w.heap.size w w' := by
 have hu37 := Try.underlying37
 have HB := Aside0.mk (Below.refl w.heap.size w)
 have H : (some a0_3) = some r := h
 clear h
 obtain rfl := Option.some.inj H
 go_enter Try.func38, Try.ntmps38
 go_wp2_with (first | ((with_reducible refine gate_dst (N := 1) rfl ?_); refine box_event ?hg (N := 1) ?hd (cs := #[.int .i64 a0_0, .int .i64 a0_1, .int .i64 a0_2, .int .i64 a0_3]) (t := 37) ?hr ?_; (case hd => rfl); (case hg => rfl); (case hr => first | (go_simp; done) | (go_simp; rfl)); intro gb327 hg w2 hbox hb; have GW327 := zg HB hg; have GE327 := zg HB hg; have n0_ := Aside0.mk (hbox); replace HB := zb HB hb; have BK327 := n0_; clear n0_; clear hb hbox hg; obtain ⟨hcz3_0, hcz3_1, hcz3_2, hcz3_3, hfz3_0, hfz3_1, hfz3_2, hfz3_3⟩ := zq4 BK327))
 go_ret
 exact ⟨by first | rfl | (simp [errW_none, errW_some] <;> rfl) | (simp [*, errW_none, errW_some] <;> rfl), by exact zb0 HB⟩

/-! ### wand_each__wand_Opaque_1: function 31 -/
def wand_each__wand_Opaque_1.l0 : Nat → List (S37) → Int → Int → Int → Int → List Int → Option (Int × Int × List Int)
 | 0, _, _, _, _, _, _ => none
 | k + 1, x14, x15, x16, x331000, x331001, x331002 => if x16 < x15 then (if 0 ≤ x16 then (if x16 < (x14.length : Int) then ((wand_Opaque_1.f ((rd_T37 x14 x16).f0) ((rd_T37 x14 x16).f1) ((rd_T37 x14 x16).f2) ((rd_T37 x14 x16).f3)).bind fun t333 => (if x331002.length < 17592186044416 then (wand_each__wand_Opaque_1.l0 k x14 x15 (wrap64 (x16 + 1)) x331000 x331001 (x331002 ++ [t333])) else (none))) else (none)) else (none)) else (some (x331000, x331001, x331002))
def wand_each__wand_Opaque_1.f (k : Nat) (a0_0 : Int) (a0_1 : Int) (l0_2 : List (S37))  : Option (Int × Int × List Int) := wand_each__wand_Opaque_1.l0 k l0_2 (l0_2.length : Int) 0 a0_0 a0_1 ([] : List Int)
theorem wand_each__wand_Opaque_1.mono_l : ∀ k, (∀ y0 y1 y2 y3 y4 y5, LeO (wand_each__wand_Opaque_1.l0 k y0 y1 y2 y3 y4 y5) (wand_each__wand_Opaque_1.l0 (k + 1) y0 y1 y2 y3 y4 y5))
 | 0 => fun _ _ _ _ _ _ r h => by simp [wand_each__wand_Opaque_1.l0] at h
 | k + 1 => by
  have ih0 := wand_each__wand_Opaque_1.mono_l k
  ·intro y0 y1 y2 y3 y4 y5
   unfold wand_each__wand_Opaque_1.l0
   repeat' first
   | (with_reducible exact ih0 _ _ _ _ _ _)
   | (with_reducible exact LeO.refl _)
   | (with_reducible exact LeO.none _)
   | (with_reducible refine LeO.ite ?_ ?_)
   | (with_reducible refine LeO.bind ?_ (fun _ => ?_))
   | exact ih0 _ _ _ _ _ _
   | exact LeO.none _
   | refine LeO.ite ?_ ?_
   | refine LeO.bind ?_ (fun _ => ?_)
theorem wand_each__wand_Opaque_1.mono : ∀ a0 a1 a2 k, LeO (wand_each__wand_Opaque_1.f k a0 a1 a2) (wand_each__wand_Opaque_1.f (k + 1) a0 a1 a2) := by
 intro a0 a1 a2 k
 have ih0 := wand_each__wand_Opaque_1.mono_l k
 unfold wand_each__wand_Opaque_1.f
 repeat' first
   | (with_reducible exact ih0 _ _ _ _ _ _)
   | (with_reducible exact LeO.refl _)
   | (with_reducible exact LeO.none _)
   | (with_reducible refine LeO.ite ?_ ?_)
   | (with_reducible refine LeO.bind ?_ (fun _ => ?_))
   | exact ih0 _ _ _ _ _ _
   | exact LeO.none _
   | refine LeO.ite ?_ ?_
   | refine LeO.bind ?_ (fun _ => ?_)
def wand_each__wand_Opaque_1.T5 : Bool × List (List Nat × List Nat) := (true, [([], []), ([0], [0]), ([], []), ([], []), ([2, 3], [2, 3]), ([4], [4]), ([1, 5, 4], [1, 5]), ([0, 1, 2, 3, 4, 5, 6], []), ([7, 6, 6, 0, 1, 2, 3, 4, 5, 6], [6, 7])])
def wand_each__wand_Opaque_1.B5 : List Nat := [0, 1, 0, 0, 12, 28, 63, 127, 255]
theorem wand_each__wand_Opaque_1.tab5 : rtab .any (opsOf Try.f31 5) = wand_each__wand_Opaque_1.T5 := by kernel_rfl
theorem wand_each__wand_Opaque_1.bits5 : waitsOk wand_each__wand_Opaque_1.T5.2 wand_each__wand_Opaque_1.B5 = true := by kernel_rfl
set_option maxHeartbeats 8000000 in
set_option maxRecDepth 100000 in
theorem wand_each__wand_Opaque_1.calls (k : Nat) (a0_0 : Int) (a0_1 : Int) (A0_2 : Option Addr) (c0_2 : Nat) (l0_2 : List (S37))  (r1 : Int) (r2 : Int) (r3 : List Int) (w : World) (hr0_2 : Kd.C k37 w A0_2 l0_2.length l0_2) (hc0_2 : l0_2.length ≤ c0_2) (h : wand_each__wand_Opaque_1.f k a0_0 a0_1 l0_2 = some (r1, r2, r3)) :
  Calls Try.prog 31 #[.agg #[.int .i64 a0_0, .int .i64 a0_1, .slice A0_2 l0_2.length c0_2], .func (.func 38) #[] #[]] w fun e w' => ∃ v2_ : Value, e = .returned (.agg #[.int .i64 r1, .int .i64 r2, v2_]) ∧ Kd.R (Kd.int .i64) 3 w' w.heap.size (fun _ => True) v2_ r3 ∧ Below w.heap.size w w' := by
 have hu24 := Try.underlying24
 have hu29 := Try.underlying29
 have hu37 := Try.underlying37
 have HR0_2 := Aside0.mk hr0_2
 have HC0_2 := Aside0.mk hc0_2
 clear hr0_2 hc0_2
 have HB := Aside0.mk (Below.refl w.heap.size w)
 have H : (wand_each__wand_Opaque_1.l0 k l0_2 (l0_2.length : Int) 0 a0_0 a0_1 ([] : List Int)) = some (r1, r2, r3) := h
 clear h
 have H' := Aside0.mk H
 clear H
 go_enter Try.func31, Try.ntmps31
 go_wp2_with (first | ((with_reducible refine gate_dst (N := 2) rfl ?_); refine box_event ?hg (N := 2) ?hd (cs := #[.int .i64 a0_0, .int .i64 a0_1, .slice A0_2 l0_2.length c0_2]) (t := 24) ?hr ?_; (case hd => rfl); (case hg => rfl); (case hr => first | (go_simp; done) | (go_simp; rfl)); intro gb328 hg w3 hbox hb; have GW328 := zg HB hg; have GE328 := zg HB hg; have n0_ := Aside0.mk (hbox); replace HB := zb HB hb; have BK328 := n0_; clear n0_; clear hb hbox hg) | ((with_reducible refine gate_dst (N := 4) rfl ?_); refine box_event ?hg (N := 4) ?hd (cs := #[.int .i64 0, .int .i64 0, .slice none 0 0]) (t := 29) ?hr ?_; (case hd => rfl); (case hg => rfl); (case hr => first | (go_simp; done) | (go_simp; rfl)); intro gb329 hg w4 hbox hb; have GW329 := zg HB hg; have GE329 := zg HB hg; have NB328_329 := zn BK328 hg; have NB329_328 := zn' BK328 hg; have n0_ := Aside0.mk (hbox); replace BK328 := zk BK328 hb; replace HB := zb HB hb; have BK329 := n0_; clear n0_; clear hb hbox hg; have hnb5 := NB328_329.out; have hnc5 := NB329_328.out; obtain ⟨hcz6_0, hcz6_1, hcz6_2, hfz6_0, hfz6_1, hfz6_2⟩ := zq3 BK328) | ((with_reducible refine gate_dst (N := 5) rfl ?_); refine box_event ?hg (N := 5) ?hd (cs := #[.int .i64 0, .int .i64 0, .slice none 0 0]) (t := 29) ?hr ?_; (case hd => rfl); (case hg => rfl); (case hr => first | (go_simp; done) | (go_simp; rfl)); intro gb330 hg w7 hbox hb; have GW330 := zg HB hg; have GE330 := zg HB hg; have NB328_330 := zn BK328 hg; have NB330_328 := zn' BK328 hg; have NB329_330 := zn BK329 hg; have NB330_329 := zn' BK329 hg; have n0_ := Aside0.mk (hbox); replace BK328 := zk BK328 hb; replace BK329 := zk BK329 hb; replace HB := zb HB hb; have BK330 := n0_; clear n0_; clear hb hbox hg; have hnb8 := NB330_328.out; have hnc8 := NB328_330.out; have hnb9 := NB330_329.out; have hnc9 := NB329_330.out; obtain ⟨hcz10_0, hcz10_1, hcz10_2, hfz10_0, hfz10_1, hfz10_2⟩ := zq3 BK330; obtain ⟨hcz11_0, hcz11_1, hcz11_2, hfz11_0, hfz11_1, hfz11_2⟩ := zq3 BK328))
 (try simp only [Act.put, sA, sB, sC])
 go_loopg [16] k (fun kq v16 w' => ∃ (x16_1 : Int) (x331002_1 : List Int) (u331002 : Value), v16 = .int .i64 x16_1 ∧ Aside0 (wand_each__wand_Opaque_1.l0 kq l0_2 (l0_2.length : Int) x16_1 a0_0 a0_1 x331002_1 = some (r1, r2, r3)) ∧ Aside0 (kq ≤ k) ∧ Aside0 (Kd.R (Kd.int .i64) 3 w' w.heap.size (fun _ => True) u331002 x331002_1) ∧ Aside0 (w'.heap[gb328]? = some (.cells #[.int .i64 a0_0, .int .i64 a0_1, (.slice A0_2 l0_2.length c0_2)] 24 (0, 0))) ∧ Aside0 (w'.heap[gb329]? = some (.cells #[.int .i64 0, .int .i64 0, (.slice none 0 0)] 29 (0, 0))) ∧ Aside0 (w'.heap[gb330]? = some (.cells #[.int .i64 a0_0, .int .i64 a0_1, u331002] 29 (0, 0))) ∧ Aside0 (Below w.heap.size w w'))
 case atStart => exact ⟨(0), (([] : List Int)), (.slice none 0 0), (by first | rfl | (simp; done) | (simp [*]; done)), H', ⟨Nat.le_refl _⟩, ⟨by first | exact Kd.R_nil _ _ _ _ _ | exact Kd.N_nil _ _ _ _ _ | exact Kd.V_nil _ _ _ _ _ | exact Kd.Q_nil _ _ _ _ _ | exact Kd.S_nil _ _ _ _ _⟩, ⟨by exact zf BK328 NB328_330⟩, ⟨by exact zf BK329 NB329_330⟩, ⟨by exact zp BK330 rfl⟩, ⟨by exact zbo HB GE330⟩⟩
 case round =>
  clear H'
  try clear p2
  try clear c3
  try clear q3
  try clear c5
  try clear c8
  try clear c9
  try clear hcz10_0
  try clear hcz10_1
  try clear hcz10_2
  try clear hcz11_0
  try clear hcz11_1
  try clear hcz11_2
  try clear hcz6_0
  try clear hcz6_1
  try clear hcz6_2
  try clear hfz10_0
  try clear hfz10_1
  try clear hfz10_2
  try clear hfz11_0
  try clear hfz11_1
  try clear hfz11_2
  try clear hfz6_0
  try clear hfz6_1
  try clear hfz6_2
  obtain ⟨x16_1, x331002_1, u331002, rfl, HA, HK1, HO_331002, BK328, BK329, BK330, HB⟩ := hrel
  cases gk with
  | zero => exact absurd HA.out (by simp [wand_each__wand_Opaque_1.l0])
  | succ k1 =>
   have H := HA.out
   clear HA
   simp only [wand_each__wand_Opaque_1.l0] at H
   by_cases c12 : x16_1 < (l0_2.length : Int)
   ·rw [if_pos c12] at H
    have c12b0 : decide (x16_1 < (l0_2.length : Int)) = true := decide_eq_true c12
    clear c12
    by_cases c13 : 0 ≤ x16_1
    ·rw [if_pos c13] at H
     have c13b0 : decide (0 ≤ x16_1) = true := decide_eq_true c13
     clear c13
     by_cases c14 : x16_1 < (l0_2.length : Int)
     ·rw [if_pos c14] at H
      have c14b0 : decide (x16_1 < (l0_2.length : Int)) = true := decide_eq_true c14
      clear c14
      replace H := Option.bind_eq_some_iff.mp H
      obtain ⟨t333, A150, H⟩ := H
      replace H : (if x331002_1.length < 17592186044416 then (wand_each__wand_Opaque_1.l0 k1 l0_2 (l0_2.length : Int) (wrap64 (x16_1 + 1)) a0_0 a0_1 (x331002_1 ++ [t333])) else (none)) = some (r1, r2, r3) := H
      have A15 := Aside0.mk A150
      clear A150
      by_cases c16 : x331002_1.length < 17592186044416
      ·rw [if_pos c16] at H
       have LMc16 := Aside0.mk c16
       clear c16
       obtain ⟨y334, hy334⟩ : ∃ y_ : List Int, y_ = (x331002_1 ++ [t333]) := ⟨_, rfl⟩
       replace H : (wand_each__wand_Opaque_1.l0 k1 l0_2 (l0_2.length : Int) (wrap64 (x16_1 + 1)) a0_0 a0_1 y334) = some (r1, r2, r3) := by first | (rw [hy334]; with_reducible exact H) | (have H2_ := (Option.bind_some _ _).symm.trans H; rw [hy334]; with_reducible exact H2_) | (have H2_ := (Option.bind_some _ _).symm.trans H; with_reducible exact H2_) | with_reducible exact H | (rw [hy334]; exact H) | exact H
       have Ny334 := Aside0.mk hy334
       clear hy334
       have H' := Aside0.mk H
       clear H
       have p331 : 0 ≤ (x16_1 : Int) := of_decide_eq_true (by first | (with_reducible assumption) | assumption)
       have q331 : x16_1 < (l0_2.length : Int) := of_decide_eq_true (by first | (with_reducible assumption) | assumption)
       obtain ⟨ad331, e331, hx331_0, hx331_1, hx331_2, hx331_3⟩ := at_T37 HR0_2.out x16_1 p331 q331
       cases e331
       replace hx331_0 := (HB.out.cell (World.block_lt_of_cell? w _ hx331_0)).trans hx331_0
       replace hx331_1 := (HB.out.cell (World.block_lt_of_cell? w _ hx331_1)).trans hx331_1
       replace hx331_2 := (HB.out.cell (World.block_lt_of_cell? w _ hx331_2)).trans hx331_2
       replace hx331_3 := (HB.out.cell (World.block_lt_of_cell? w _ hx331_3)).trans hx331_3
       replace p331 := eq_true p331
       replace q331 := eq_true q331
       try go_wp2_with (first | ((with_reducible refine gate_dst (N := 7) rfl ?_); refine box_event ?hg (N := 7) ?hd (cs := #[.int .i64 0, .int .i64 0, .int .i64 0, .int .i64 0]) (t := 37) ?hr ?_; (case hd => rfl); (case hg => rfl); (case hr => first | (go_simp; done) | (go_simp; rfl)); intro gb332 hg w17 hbox hb; have GW332 := zg HB hg; have GE332 := zg HB hg; have NB328_332 := zn BK328 hg; have NB332_328 := zn' BK328 hg; have NB329_332 := zn BK329 hg; have NB332_329 := zn' BK329 hg; have NB330_332 := zn BK330 hg; have NB332_330 := zn' BK330 hg; have n0_ := Aside0.mk (hbox); replace HO_331002 := zr HO_331002 hb; replace BK328 := zk BK328 hb; replace BK329 := zk BK329 hb; replace BK330 := zk BK330 hb; replace HB := zb HB hb; have BK332 := n0_; clear n0_; clear hb hbox hg; have hnb18 := NB332_328.out; have hnc18 := NB328_332.out; have hnb19 := NB332_329.out; have hnc19 := NB329_332.out; have hnb20 := NB332_330.out; have hnc20 := NB330_332.out; obtain ⟨hcz21_0, hcz21_1, hcz21_2, hcz21_3, hfz21_0, hfz21_1, hfz21_2, hfz21_3⟩ := zq4 BK332))
       have n0_ : Aside0 (Kd.R (Kd.int .i64) 3 ((((w17.setCell ⟨gb332, 0, none⟩ (.int .i64 ((rd_T37 l0_2 x16_1).f0))).setCell ⟨gb332, 1, none⟩ (.int .i64 ((rd_T37 l0_2 x16_1).f1))).setCell ⟨gb332, 2, none⟩ (.int .i64 ((rd_T37 l0_2 x16_1).f2))).setCell ⟨gb332, 3, none⟩ (.int .i64 ((rd_T37 l0_2 x16_1).f3))) w.heap.size (fun _ => True) u331002 x331002_1) := ⟨by exact zro HO_331002 BK332 (by decide)⟩
       have n1_ : Aside0 (((((w17.setCell ⟨gb332, 0, none⟩ (.int .i64 ((rd_T37 l0_2 x16_1).f0))).setCell ⟨gb332, 1, none⟩ (.int .i64 ((rd_T37 l0_2 x16_1).f1))).setCell ⟨gb332, 2, none⟩ (.int .i64 ((rd_T37 l0_2 x16_1).f2))).setCell ⟨gb332, 3, none⟩ (.int .i64 ((rd_T37 l0_2 x16_1).f3))).heap[gb328]? = some (.cells #[.int .i64 a0_0, .int .i64 a0_1, .slice (some ad331) l0_2.length c0_2] 24 (0, 0))) := ⟨by exact zf BK328 NB328_332⟩
       have n2_ : Aside0 (((((w17.setCell ⟨gb332, 0, none⟩ (.int .i64 ((rd_T37 l0_2 x16_1).f0))).setCell ⟨gb332, 1, none⟩ (.int .i64 ((rd_T37 l0_2 x16_1).f1))).setCell ⟨gb332, 2, none⟩ (.int .i64 ((rd_T37 l0_2 x16_1).f2))).setCell ⟨gb332, 3, none⟩ (.int .i64 ((rd_T37 l0_2 x16_1).f3))).heap[gb329]? = some (.cells #[.int .i64 0, .int .i64 0, .slice none 0 0] 29 (0, 0))) := ⟨by exact zf BK329 NB329_332⟩
       have n3_ : Aside0 (((((w17.setCell ⟨gb332, 0, none⟩ (.int .i64 ((rd_T37 l0_2 x16_1).f0))).setCell ⟨gb332, 1, none⟩ (.int .i64 ((rd_T37 l0_2 x16_1).f1))).setCell ⟨gb332, 2, none⟩ (.int .i64 ((rd_T37 l0_2 x16_1).f2))).setCell ⟨gb332, 3, none⟩ (.int .i64 ((rd_T37 l0_2 x16_1).f3))).heap[gb330]? = some (.cells #[.int .i64 a0_0, .int .i64 a0_1, u331002] 29 (0, 0))) := ⟨by exact zf BK330 NB330_332⟩
       have n4_ : Aside0 (((((w17.setCell ⟨gb332, 0, none⟩ (.int .i64 ((rd_T37 l0_2 x16_1).f0))).setCell ⟨gb332, 1, none⟩ (.int .i64 ((rd_T37 l0_2 x16_1).f1))).setCell ⟨gb332, 2, none⟩ (.int .i64 ((rd_T37 l0_2 x16_1).f2))).setCell ⟨gb332, 3, none⟩ (.int .i64 ((rd_T37 l0_2 x16_1).f3))).heap[gb332]? = some (.cells #[.int .i64 ((rd_T37 l0_2 x16_1).f0), .int .i64 ((rd_T37 l0_2 x16_1).f1), .int .i64 ((rd_T37 l0_2 x16_1).f2), .int .i64 ((rd_T37 l0_2 x16_1).f3)] 37 (0, 0))) := ⟨by exact zp BK332 rfl⟩
       have n5_ : Aside0 (Below w.heap.size w ((((w17.setCell ⟨gb332, 0, none⟩ (.int .i64 ((rd_T37 l0_2 x16_1).f0))).setCell ⟨gb332, 1, none⟩ (.int .i64 ((rd_T37 l0_2 x16_1).f1))).setCell ⟨gb332, 2, none⟩ (.int .i64 ((rd_T37 l0_2 x16_1).f2))).setCell ⟨gb332, 3, none⟩ (.int .i64 ((rd_T37 l0_2 x16_1).f3)))) := ⟨by exact zbo HB GE332⟩
       (try clear HO_331002)
       (try clear BK328)
       (try clear BK329)
       (try clear BK330)
       (try clear BK332)
       (try clear HB)
       generalize ((((w17.setCell ⟨gb332, 0, none⟩ (.int .i64 ((rd_T37 l0_2 x16_1).f0))).setCell ⟨gb332, 1, none⟩ (.int .i64 ((rd_T37 l0_2 x16_1).f1))).setCell ⟨gb332, 2, none⟩ (.int .i64 ((rd_T37 l0_2 x16_1).f2))).setCell ⟨gb332, 3, none⟩ (.int .i64 ((rd_T37 l0_2 x16_1).f3))) = w22 at n0_ n1_ n2_ n3_ n4_ n5_ ⊢
       have HO_331002 := n0_
       have BK328 := n1_
       have BK329 := n2_
       have BK330 := n3_
       have BK332 := n4_
       have HB := n5_
       clear n0_ n1_ n2_ n3_ n4_ n5_
       replace HO_331002 := zrd HO_331002
       replace BK328 := zkd BK328
       replace BK329 := zkd BK329
       replace BK330 := zkd BK330
       replace BK332 := zkd BK332
       replace HB := zbd HB
       refine start_ (n := 9) (S := fun w' => w'.cell? ⟨gb330, 0, none⟩ = some (.int .i64 a0_0) ∧ w'.cell? ⟨gb330, 1, none⟩ = some (.int .i64 a0_1) ∧ w'.cell? ⟨gb330, 2, none⟩ = some (u331002) ∧ w'.cell? ⟨gb332, 0, none⟩ = some (.int .i64 ((rd_T37 l0_2 x16_1).f0)) ∧ w'.cell? ⟨gb332, 1, none⟩ = some (.int .i64 ((rd_T37 l0_2 x16_1).f1)) ∧ w'.cell? ⟨gb332, 2, none⟩ = some (.int .i64 ((rd_T37 l0_2 x16_1).f2)) ∧ w'.cell? ⟨gb332, 3, none⟩ = some (.int .i64 ((rd_T37 l0_2 x16_1).f3))) (ds := [8]) (bs 9 0) (by kernel_rfl) rfl rfl ⟨(blk_cell BK330.out 0).trans rfl, (blk_cell BK330.out 1).trans rfl, (blk_cell BK330.out 2).trans rfl, (blk_cell BK332.out 0).trans rfl, (blk_cell BK332.out 1).trans rfl, (blk_cell BK332.out 2).trans rfl, (blk_cell BK332.out 3).trans rfl⟩ (fun hHeld => ?_); refine with_tabW wand_each__wand_Opaque_1.tab5 wand_each__wand_Opaque_1.bits5 (fun HT_ HW_ => ?_)
       generalize w22.drew = w23 at HO_331002 BK328 BK329 BK330 BK332 HB hHeld ⊢
       refine pure_ (i := 0) (N := some 20) (v := ?_) (a' := ?_) (bs 9 1) rfl rfl (any_of HT_.out (by kernel_rfl)) (fun _ _ _ h => h) (Or.inl ⟨by rfl, ?_⟩) ?_ ?_
       rotate_left
       ·intro w'
        go_simp
        with_reducible rfl
       rotate_left
       ·simp only [Act.put, sA, sB, sC, i64_w, i32_w]
        rfl
       refine pure_ (i := 2) (N := some 22) (v := ?_) (a' := ?_) (bs 9 5) rfl rfl (any_of HT_.out (by kernel_rfl)) (fun _ _ _ h => h) (Or.inl ⟨by rfl, ?_⟩) ?_ ?_
       rotate_left
       ·intro w'
        go_simp
        with_reducible rfl
       rotate_left
       ·simp only [Act.put, sA, sB, sC, i64_w, i32_w]
        rfl
       refine take_ (i := 1) (N := some 21) (v := ?_) (a' := ?_) (bs 9 7) rfl rfl (take_ofW HT_.out HW_.out (by kernel_rfl)) (fun _ _ _ h => h) (Or.inl ⟨by rfl, ?_⟩) hHeld ?_ ?_
       rotate_left
       ·rintro w' ⟨s0, s1, s2, s3, s4, s5, s6⟩
        go_simp
        with_reducible rfl
       rotate_left
       ·simp only [Act.put, sA, sB, sC, i64_w, i32_w]
        rfl
       refine take_ (i := 3) (N := some 23) (v := ?_) (a' := ?_) (bs 9 15) rfl rfl (take_ofW HT_.out HW_.out (by kernel_rfl)) (fun _ _ _ h => h) (Or.inl ⟨by rfl, ?_⟩) hHeld ?_ ?_
       rotate_left
       ·rintro w' ⟨s0, s1, s2, s3, s4, s5, s6⟩
        go_simp
        with_reducible rfl
       rotate_left
       ·simp only [Act.put, sA, sB, sC, i64_w, i32_w]
        rfl
       refine one_ (i := 4) (N := some 24) (bs 9 31) rfl rfl (one_of HT_.out (by kernel_rfl)) (by decide) (fun K hK => ?_)
       refine goesT_ (t := 22) Try.func38 (by kernel_rfl) rfl #[] #[.agg #[.int .i64 ((rd_T37 l0_2 x16_1).f0), .int .i64 ((rd_T37 l0_2 x16_1).f1), .int .i64 ((rd_T37 l0_2 x16_1).f2), .int .i64 ((rd_T37 l0_2 x16_1).f3)]] (by rfl) rfl rfl (by first | rfl | (go_simp; done) | (go_simp; rfl)) (by (try simp only [List.map_toArray, List.map_cons, List.map_nil]); first | done | rfl | (go_simp; done) | (go_simp; rfl)) ?_
       with_reducible refine (wand_Opaque_1.calls ((rd_T37 l0_2 x16_1).f0) ((rd_T37 l0_2 x16_1).f1) ((rd_T37 l0_2 x16_1).f2) ((rd_T37 l0_2 x16_1).f3) t333 _ A15.out).mono ?_
       rintro e w24 ⟨rfl, hb⟩
       refine ⟨_, rfl, ?_⟩
       replace HO_331002 := zr HO_331002 hb
       replace BK328 := zk BK328 hb
       replace BK329 := zk BK329 hb
       replace BK330 := zk BK330 hb
       replace BK332 := zk BK332 hb
       replace HB := zb HB hb
       (try clear hb)
       (try clear hb2)
       (try clear hk)
       (try clear hi)
       refine hK.out _ _ ⟨(blk_cell BK330.out 0).trans rfl, (blk_cell BK330.out 1).trans rfl, (blk_cell BK330.out 2).trans rfl, (blk_cell BK332.out 0).trans rfl, (blk_cell BK332.out 1).trans rfl, (blk_cell BK332.out 2).trans rfl, (blk_cell BK332.out 3).trans rfl⟩ (fun hHeld => ?_)
       clear hK K
       refine norm_ (a' := ?_) ?_ ?_
       rotate_left
       ·show Act.put _ (some 24) _ = _
        simp only [Act.put, sA, sB, sC, i64_w, i32_w]
        rfl
       refine one_ (i := 5) (N := some 25) (bs 9 63) rfl rfl (one_of HT_.out (by kernel_rfl)) (by decide) (fun K hK => ?_)
       refine value_ (w1 := ?_) (v := ?_) (by rfl) rfl ?_ ?_
       rotate_left 2
       ·go_simp
        constructor
        ·rfl
        ·rfl
       refine hK.out _ _ ⟨(blk_cell (blk_alloc BK330.out _) 0).trans rfl, (blk_cell (blk_alloc BK330.out _) 1).trans rfl, (blk_cell (blk_alloc BK330.out _) 2).trans rfl, (blk_cell (blk_alloc BK332.out _) 0).trans rfl, (blk_cell (blk_alloc BK332.out _) 1).trans rfl, (blk_cell (blk_alloc BK332.out _) 2).trans rfl, (blk_cell (blk_alloc BK332.out _) 3).trans rfl⟩ (fun hHeld => ?_)
       clear hK K
       refine norm_ (a' := ?_) ?_ ?_
       rotate_left
       ·show Act.put _ (some 25) _ = _
        simp only [Act.put, sA, sB, sC, i64_w, i32_w]
        rfl
       refine one_ (i := 6) (N := some 26) (bs 9 127) rfl rfl (one_of HT_.out (by kernel_rfl)) (by decide) (fun K hK => ?_)
       refine Kd.R_append_step (Kd.int .i64) (w0 := w) w.heap.size (by rfl) (.tmp 21) (.tmp 25) 27 3 (.int .i64 0) 8 rfl Try.underlying27 info3 rfl (by decide) (by omega) u331002 x331002_1 t333 [.int .i64 t333] (fun _ => True) (fun _ => False) rfl rfl ?aP (fun _ hk => hk.elim) ?aF ?aO ?aB ?aS ?aL ?_
       (case aP => exact rfl)
       (case aB => exact (by exact zb0 HB))
       (case aF => exact (fun _ _ => trivial))
       (case aO => exact (by exact zr0 HO_331002))
       (case aS => exact (below_size (by exact zb0 HB)))
       (case aL => have := LMc16.out; omega)
       intro v335 w25 ho hb hg hat
       rw [← Ny334.out] at ho
       have n0_ := Aside0.mk (blk_grown (zk0 BK328) hg (Kd.R_ne HO_331002.out BK328.out (by decide)))
       have n1_ := Aside0.mk (blk_grown (zk0 BK329) hg (Kd.R_ne HO_331002.out BK329.out (by decide)))
       have n2_ := Aside0.mk (blk_grown (zk0 BK330) hg (Kd.R_ne HO_331002.out BK330.out (by decide)))
       have n3_ := Aside0.mk (blk_grown (zk0 BK332) hg (Kd.R_ne HO_331002.out BK332.out (by decide)))
       have n4_ := Aside0.mk (hb)
       have n5_ := Aside0.mk (ho)
       clear BK328
       clear BK329
       clear BK330
       clear BK332
       clear HB
       clear HO_331002
       have BK328 := n0_
       have BK329 := n1_
       have BK330 := n2_
       have BK332 := n3_
       have HB := n4_
       have HO336 := n5_
       clear n0_ n1_ n2_ n3_ n4_ n5_
       clear ho hb hg hat
       obtain ⟨Ao26, co26, eo26⟩ := Kd.R_slice HO336.out
       (first | subst eo26 | (injection eo26 with f1_ f2_ f3_; have f4_ := f1_.symm; have f5_ := f3_.symm; clear f1_ f2_ f3_; subst f4_; subst f5_))
       refine hK.out _ _ ⟨(blk_cell BK330.out 0).trans rfl, (blk_cell BK330.out 1).trans rfl, (blk_cell BK330.out 2).trans rfl, (blk_cell BK332.out 0).trans rfl, (blk_cell BK332.out 1).trans rfl, (blk_cell BK332.out 2).trans rfl, (blk_cell BK332.out 3).trans rfl⟩ (fun hHeld => ?_)
       clear hK K
       refine norm_ (a' := ?_) ?_ ?_
       rotate_left
       ·show Act.put _ (some 26) _ = _
        simp only [Act.put, sA, sB, sC, i64_w, i32_w]
        rfl
       refine pure_ (i := 7) (N := some 27) (v := ?_) (a' := ?_) (bs 9 255) rfl rfl (any_of HT_.out (by kernel_rfl)) (fun _ _ _ h => h) (Or.inl ⟨by rfl, ?_⟩) ?_ ?_
       rotate_left
       ·intro w'
        go_simp
        with_reducible rfl
       rotate_left
       ·simp only [Act.put, sA, sB, sC, i64_w, i32_w]
        rfl
       refine last_ (i := 8) (N := none) (bs 9 511) rfl rfl (one_of HT_.out (by kernel_rfl)) (by decide) (fun K hK => ?_)
       have hs27 : w25.cell? ⟨gb330, 2, none⟩ = some (u331002) := (blk_cell BK330.out 2).trans rfl
       have hfs27 := blk_frozen BK330.out 2
       have hns27_0 := NB328_330.out
       have hns27_1 := NB329_330.out
       have hns27_3 := NB332_330.out
       have hms27_0 := NB330_328.out
       have hms27_1 := NB330_329.out
       have hms27_3 := NB330_332.out
       refine skip_ (w1 := ?_) (by rfl) rfl ?_ ?_
       rotate_left
       ·go_simp
        rfl
       refine hK.out _ _ ?_
       clear hK K
       refine done_ (done_of HT_.out (by kernel_rfl)) ?_
       try go_wp2
       go_roundg k1
       case measure => have := HK1.out; omega
       case rel => exact ⟨(wrap64 (x16_1 + 1)), (y334), (.slice Ao26 y334.length co26), (by first | rfl | (simp; done) | (simp [*]; done)), H', ⟨by have := HK1.out; omega⟩, ⟨by exact zro HO336 BK330 (by decide)⟩, ⟨by exact zf BK328 NB328_330⟩, ⟨by exact zf BK329 NB329_330⟩, ⟨by exact zp BK330 rfl⟩, ⟨by exact zbo HB GE330⟩⟩
      ·rw [if_neg c16] at H
       exact absurd H (by simp)
     ·rw [if_neg c14] at H
      exact absurd H (by simp)
    ·rw [if_neg c13] at H
     exact absurd H (by simp)
   ·rw [if_neg c12] at H
    have c12b0 : decide (x16_1 < (l0_2.length : Int)) = false := decide_eq_false c12
    clear c12
    simp only [Option.some.injEq, Prod.mk.injEq] at H
    obtain ⟨rfl, rfl, rfl⟩ := H
    have hnb28 := NB330_328.out
    have hnc28 := NB328_330.out
    have hnb29 := NB330_329.out
    have hnc29 := NB329_330.out
    obtain ⟨hcz30_0, hcz30_1, hcz30_2, hfz30_0, hfz30_1, hfz30_2⟩ := zq3 BK330
    have hnb31 := NB329_328.out
    have hnc31 := NB328_329.out
    obtain ⟨hcz32_0, hcz32_1, hcz32_2, hfz32_0, hfz32_1, hfz32_2⟩ := zq3 BK329
    obtain ⟨Ao33, co33, eo33⟩ := Kd.R_slice HO_331002.out
    subst eo33
    go_wp2
    refine bodyPost_ret (results_cell_row rfl _ _ gb329 29 #[.int .i64 a0_0, .int .i64 a0_1, .slice Ao33 x331002_1.length co33] (0, 0) _ rfl (by exact zp BK329 rfl) Try.underlying29 rfl (by kernel_rfl)) rfl ?_
    exact ⟨_, by first | rfl | (simp [errW_none, errW_some] <;> rfl) | (simp [*, errW_none, errW_some] <;> rfl), by exact zro HO_331002 BK329 (by decide), by exact zbo HB GE329⟩

/-! ### wand_Opaque: function 17 -/
def wand_Opaque.f (k : Nat) (a0_0 : Int) (a0_1 : Int) (l0_2 : List (S37)) : Option (Int × Int × List Int × Int) := (raster_Check.f k a0_0 a0_1 l0_2).bind fun t339 => (if t339 = 0 then ((wand_each__wand_Opaque_1.f k a0_0 a0_1 l0_2).bind fun bt340 => (some (bt340.1, bt340.2.1, bt340.2.2, 0))) else (some (0, 0, ([] : List Int), t339)))
theorem wand_Opaque.mono : ∀ a0 a1 a2 k, LeO (wand_Opaque.f k a0 a1 a2) (wand_Opaque.f (k + 1) a0 a1 a2) := by
 intro a0 a1 a2 k
 unfold wand_Opaque.f
 repeat' first
   | (with_reducible exact raster_Check.mono _ _ _ _)
   | (with_reducible exact wand_each__wand_Opaque_1.mono _ _ _ _)
   | (with_reducible exact LeO.refl _)
   | (with_reducible exact LeO.none _)
   | (with_reducible refine LeO.ite ?_ ?_)
   | (with_reducible refine LeO.bind ?_ (fun _ => ?_))
   | exact raster_Check.mono _ _ _ _
   | exact wand_each__wand_Opaque_1.mono _ _ _ _
   | exact LeO.none _
   | refine LeO.ite ?_ ?_
   | refine LeO.bind ?_ (fun _ => ?_)
set_option maxHeartbeats 8000000 in
set_option maxRecDepth 100000 in
theorem wand_Opaque.calls (k : Nat) (a0_0 : Int) (a0_1 : Int) (A0_2 : Option Addr) (c0_2 : Nat) (l0_2 : List (S37)) (r1 : Int) (r2 : Int) (r3 : List Int) (r4 : Int) (w : World) (hr0_2 : Kd.C k37 w A0_2 l0_2.length l0_2) (hc0_2 : l0_2.length ≤ c0_2) (h : wand_Opaque.f k a0_0 a0_1 l0_2 = some (r1, r2, r3, r4)) :
  Calls Try.prog 17 #[.agg #[.int .i64 a0_0, .int .i64 a0_1, .slice A0_2 l0_2.length c0_2]] w fun e w' => ∃ v2_ : Value, e = .returned (.tuple #[.agg #[.int .i64 r1, .int .i64 r2, v2_], .int .i64 r4]) ∧ Kd.R (Kd.int .i64) 3 w' w.heap.size (fun _ => True) v2_ r3 ∧ Below w.heap.size w w' := by
 have hu24 := Try.underlying24
 have hu29 := Try.underlying29
 have HR0_2 := Aside0.mk hr0_2
 have HC0_2 := Aside0.mk hc0_2
 clear hr0_2 hc0_2
 have HB := Aside0.mk (Below.refl w.heap.size w)
 have H : ((raster_Check.f k a0_0 a0_1 l0_2).bind fun t339 => (if t339 = 0 then ((wand_each__wand_Opaque_1.f k a0_0 a0_1 l0_2).bind fun bt340 => (some (bt340.1, bt340.2.1, bt340.2.2, 0))) else (some (0, 0, ([] : List Int), t339)))) = some (r1, r2, r3, r4) := h
 clear h
 replace H := Option.bind_eq_some_iff.mp H
 obtain ⟨t339, A20, H⟩ := H
 replace H : (if t339 = 0 then ((wand_each__wand_Opaque_1.f k a0_0 a0_1 l0_2).bind fun bt340 => (some (bt340.1, bt340.2.1, bt340.2.2, 0))) else (some (0, 0, ([] : List Int), t339))) = some (r1, r2, r3, r4) := H
 have A2 := Aside0.mk A20
 clear A20
 by_cases c3 : t339 = 0
 ·rw [if_pos c3] at H
  have c3b0 : (t339 == 0) = true := beq_iff_eq.mpr c3
  have c3b1 : (t339 != 0) = false := bne_eq_false_iff_eq.mpr c3
  clear c3
  replace H := Option.bind_eq_some_iff.mp H
  obtain ⟨⟨t340, t341, t342⟩, A40, H⟩ := H
  replace H : (some (t340, t341, t342, 0)) = some (r1, r2, r3, r4) := H
  have A4 := Aside0.mk A40
  clear A40
  simp only [Option.some.injEq, Prod.mk.injEq] at H
  obtain ⟨rfl, rfl, rfl, rfl⟩ := H
  go_enter Try.func17, Try.ntmps17
  go_wp2_with (first | ((with_reducible refine gate_dst (N := 1) rfl ?_); refine box_event ?hg (N := 1) ?hd (cs := #[.int .i64 a0_0, .int .i64 a0_1, .slice A0_2 l0_2.length c0_2]) (t := 24) ?hr ?_; (case hd => rfl); (case hg => rfl); (case hr => first | (go_simp; done) | (go_simp; rfl)); intro gb337 hg w5 hbox hb; have GW337 := zg HB hg; have GE337 := zg HB hg; have n0_ := Aside0.mk (hbox); replace HB := zb HB hb; have BK337 := n0_; clear n0_; clear hb hbox hg) | ((with_reducible refine gate_dst (N := 2) rfl ?_); refine box_event ?hg (N := 2) ?hd (cs := #[.int .i64 0, .int .i64 0, .slice none 0 0]) (t := 29) ?hr ?_; (case hd => rfl); (case hg => rfl); (case hr => first | (go_simp; done) | (go_simp; rfl)); intro gb338 hg w6 hbox hb; have GW338 := zg HB hg; have GE338 := zg HB hg; have NB337_338 := zn BK337 hg; have NB338_337 := zn' BK337 hg; have n0_ := Aside0.mk (hbox); replace BK337 := zk BK337 hb; replace HB := zb HB hb; have BK338 := n0_; clear n0_; clear hb hbox hg; have hnb7 := NB337_338.out; have hnc7 := NB338_337.out; obtain ⟨hcz8_0, hcz8_1, hcz8_2, hfz8_0, hfz8_1, hfz8_2⟩ := zq3 BK337) | ((with_reducible refine gate_callee (f := 22) rfl ?_); refine goesL_ (some 6) rfl rfl Try.func22 (by kernel_rfl) rfl #[.agg #[.int .i64 a0_0, .int .i64 a0_1, .slice A0_2 l0_2.length c0_2]] rfl (by (try simp only [List.map_toArray, List.map_cons, List.map_nil]); first | done | rfl | (simp only [List.length_drop, List.length_take]; rfl)) ?_; (with_reducible refine (raster_Check.calls k a0_0 a0_1 _ _ l0_2 t339 _ ?side1 ?side2 A2.out).mono ?_); (case side1 => repeat (first | exact (Kd.C_below HR0_2.out HB.out) | (with_reducible refine Kd.C_alloc ?_ _) | (with_reducible refine Kd.C_drewN ?_ _) | (with_reducible refine Kd.C_drew ?_))); (case side2 => exact HC0_2.out); rintro e w9 ⟨rfl, hb⟩; refine ⟨_, rfl, ?_⟩; replace BK337 := zk BK337 hb; replace BK338 := zk BK338 hb; replace HB := zb HB hb; (try clear hb); (try clear hb2); (try clear hk); (try clear hi); obtain ⟨hcz10_0, hcz10_1, hcz10_2, hfz10_0, hfz10_1, hfz10_2⟩ := zq3 BK337) | ((with_reducible refine gate_callee (f := 31) rfl ?_); refine goesL_ (some 12) rfl rfl Try.func31 (by kernel_rfl) rfl #[.agg #[.int .i64 a0_0, .int .i64 a0_1, .slice A0_2 l0_2.length c0_2], .func (.func 38) #[] #[]] rfl (by (try simp only [List.map_toArray, List.map_cons, List.map_nil]); first | done | rfl | (simp only [List.length_drop, List.length_take]; rfl)) ?_; (with_reducible refine (wand_each__wand_Opaque_1.calls k a0_0 a0_1 _ _ l0_2  t340 t341 t342 _ ?side1 ?side2 A4.out).mono ?_); (case side1 => repeat (first | exact (Kd.C_below HR0_2.out HB.out) | (with_reducible refine Kd.C_alloc ?_ _) | (with_reducible refine Kd.C_drewN ?_ _) | (with_reducible refine Kd.C_drew ?_))); (case side2 => exact HC0_2.out); rintro e w11 ⟨v343, rfl, ho0, hb⟩; refine ⟨_, rfl, ?_⟩; have HO344 := zl HB ho0; replace BK337 := zk BK337 hb; replace BK338 := zk BK338 hb; replace HB := zb HB hb; (try clear hb); (try clear hb2); (try clear hk); (try clear hi); (try clear ho0); obtain ⟨hcz12_0, hcz12_1, hcz12_2, hfz12_0, hfz12_1, hfz12_2⟩ := zq3 BK338; obtain ⟨Ao13, co13, eo13⟩ := Kd.R_slice HO344.out; subst eo13))
  refine bodyPost_ret (results_ct rfl _ _ gb338 29 #[.int .i64 t340, .int .i64 t341, .slice Ao13 t342.length co13] (0, 0) _ rfl (by exact zp BK338 rfl) Try.underlying29 rfl (by kernel_rfl)) rfl ?_
  exact ⟨_, by first | rfl | (simp [errW_none, errW_some] <;> rfl) | (simp [*, errW_none, errW_some] <;> rfl), by exact zro HO344 BK338 (by decide), by exact zbo HB GE338⟩
 ·rw [if_neg c3] at H
  have c3b0 : (t339 == 0) = false := beq_eq_false_iff_ne.mpr c3
  have c3b1 : (t339 != 0) = true := bne_iff_ne.mpr c3
  simp only [Option.some.injEq, Prod.mk.injEq] at H
  obtain ⟨rfl, rfl, rfl, rfl⟩ := H
  go_enter Try.func17, Try.ntmps17
  go_wp2_with (first | ((with_reducible refine gate_dst (N := 1) rfl ?_); refine box_event ?hg (N := 1) ?hd (cs := #[.int .i64 a0_0, .int .i64 a0_1, .slice A0_2 l0_2.length c0_2]) (t := 24) ?hr ?_; (case hd => rfl); (case hg => rfl); (case hr => first | (go_simp; done) | (go_simp; rfl)); intro gb337 hg w14 hbox hb; have GW337 := zg HB hg; have GE337 := zg HB hg; have n0_ := Aside0.mk (hbox); replace HB := zb HB hb; have BK337 := n0_; clear n0_; clear hb hbox hg) | ((with_reducible refine gate_dst (N := 2) rfl ?_); refine box_event ?hg (N := 2) ?hd (cs := #[.int .i64 0, .int .i64 0, .slice none 0 0]) (t := 29) ?hr ?_; (case hd => rfl); (case hg => rfl); (case hr => first | (go_simp; done) | (go_simp; rfl)); intro gb338 hg w15 hbox hb; have GW338 := zg HB hg; have GE338 := zg HB hg; have NB337_338 := zn BK337 hg; have NB338_337 := zn' BK337 hg; have n0_ := Aside0.mk (hbox); replace BK337 := zk BK337 hb; replace HB := zb HB hb; have BK338 := n0_; clear n0_; clear hb hbox hg; have hnb16 := NB337_338.out; have hnc16 := NB338_337.out; obtain ⟨hcz17_0, hcz17_1, hcz17_2, hfz17_0, hfz17_1, hfz17_2⟩ := zq3 BK337) | ((with_reducible refine gate_callee (f := 22) rfl ?_); refine goesL_ (some 6) rfl rfl Try.func22 (by kernel_rfl) rfl #[.agg #[.int .i64 a0_0, .int .i64 a0_1, .slice A0_2 l0_2.length c0_2]] rfl (by (try simp only [List.map_toArray, List.map_cons, List.map_nil]); first | done | rfl | (simp only [List.length_drop, List.length_take]; rfl)) ?_; (with_reducible refine (raster_Check.calls k a0_0 a0_1 _ _ l0_2 t339 _ ?side1 ?side2 A2.out).mono ?_); (case side1 => repeat (first | exact (Kd.C_below HR0_2.out HB.out) | (with_reducible refine Kd.C_alloc ?_ _) | (with_reducible refine Kd.C_drewN ?_ _) | (with_reducible refine Kd.C_drew ?_))); (case side2 => exact HC0_2.out); rintro e w18 ⟨rfl, hb⟩; refine ⟨_, rfl, ?_⟩; replace BK337 := zk BK337 hb; replace BK338 := zk BK338 hb; replace HB := zb HB hb; (try clear hb); (try clear hb2); (try clear hk); (try clear hi); obtain ⟨hcz19_0, hcz19_1, hcz19_2, hfz19_0, hfz19_1, hfz19_2⟩ := zq3 BK338))
  refine bodyPost_ret (results_ct rfl _ _ gb338 29 #[.int .i64 0, .int .i64 0, .slice none 0 0] (0, 0) _ rfl (by exact zp BK338 rfl) Try.underlying29 rfl (by kernel_rfl)) rfl ?_
  exact ⟨_, by first | rfl | (simp [errW_none, errW_some] <;> rfl) | (simp [*, errW_none, errW_some] <;> rfl), by first | exact Kd.R_nil _ _ _ _ _ | exact Kd.N_nil _ _ _ _ _ | exact Kd.V_nil _ _ _ _ _ | exact Kd.Q_nil _ _ _ _ _ | exact Kd.S_nil _ _ _ _ _, by exact zbo HB GE338⟩

end Go.Proofs.Ytmmncannibnklaa.G
