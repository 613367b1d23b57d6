/- Contracts of functions of the program, each as it is called: what it computes (.f), that it computes no less with more rounds (.mono), and that a call returns just that (.calls). No conditions but those that each contract names. Written by a program of this session (wip/gx.py over the kit's print). -/
import Derived.Test.YtnfbabmceddciaaG0
import Derived.Test.YtnfbabmceddciaaG2
import Derived.Test.YtnfbabmceddciaaG4
import Derived.Test.YtnfbabmceddciaaG13
namespace Go.Proofs.Ytnfbabmceddciaa.G
open Go.RowKit Go.Proofs.YtnfbabmceddciaaW.PrintWords Go.Proofs.YtnfbabmceddciaaW.PrintLast Go.Proofs.YtnfbabmceddciaaW.PrintMore
attribute [local go_sem] max2_int min2_int max_two min_two max_three min_three max_four min_four max_five min_five   -- for this text's walks alone
set_option linter.unusedVariables false
set_option linter.unusedSimpArgs false


attribute [local go_sem high] eqA28
/-! ### imageeditorlaw15_WarpPoints: function 6 -/
mutual
def imageeditorlaw15_WarpPoints.j0 : Nat → Int → Int → Int → Int → Bool → Int → Int → Int → List (S28) → Option (Bool)
 | 0, _, _, _, _, _, _, _, _, _ => none
 | k + 1, x1, x2, x3, x4, x19, x733000, x733001, x733002, x733003 => if x19 = true then ((imageeditorlaw15_awake.f k).bind fun t735 => (some t735)) else ((warp_At.f k x733000 x733001 x733002 x733003 x3 x4).bind fun bt736 => ((warp_Reach.f k x733000 x733001 x733002 x733003).bind fun t738 => (if t738 < 0 then (imageeditorlaw15_WarpPoints.j1 k x1 x2 true x733000 x733001 x733002 x733003) else (if t738 > 16 then (imageeditorlaw15_WarpPoints.j1 k x1 x2 true x733000 x733001 x733002 x733003) else (if bt736.1 > (wrap64 (t738 * 65536)) then (imageeditorlaw15_WarpPoints.j1 k x1 x2 true x733000 x733001 x733002 x733003) else (if bt736.1 < (wrap64 ((wrap64 (-t738)) * 65536)) then (imageeditorlaw15_WarpPoints.j1 k x1 x2 true x733000 x733001 x733002 x733003) else (if bt736.2 > (wrap64 (t738 * 65536)) then (imageeditorlaw15_WarpPoints.j1 k x1 x2 true x733000 x733001 x733002 x733003) else (imageeditorlaw15_WarpPoints.j1 k x1 x2 (decide (bt736.2 < (wrap64 ((wrap64 (-t738)) * 65536)))) x733000 x733001 x733002 x733003))))))))
def imageeditorlaw15_WarpPoints.j1 : Nat → Int → Int → Bool → Int → Int → Int → List (S28) → Option (Bool)
 | 0, _, _, _, _, _, _, _ => none
 | k + 1, x1, x2, x62, x733000, x733001, x733002, x733003 => if x62 = true then (some false) else (if x1 < 0 then (some true) else (if x1 ≥ x733000 then (some true) else (if x2 < 0 then (some true) else (if x2 ≥ x733001 then (some true) else ((warp_At.f k x733000 x733001 x733002 x733003 (wrap64 (x1 * x733002)) (wrap64 (x2 * x733002))).bind fun bt740 => (if 0 ≤ (wrap64 ((wrap64 (x2 * x733000)) + x1)) then (if (wrap64 ((wrap64 (x2 * x733000)) + x1)) < (x733003.length : Int) then (some (bt740.1 == ((rd_T28 x733003 (wrap64 ((wrap64 (x2 * x733000)) + x1))).f0) && (bt740.2 == ((rd_T28 x733003 (wrap64 ((wrap64 (x2 * x733000)) + x1))).f1)))) else (none)) else (none)))))))
end
def imageeditorlaw15_WarpPoints.f (k : Nat) (a0_0 : Int) (a0_1 : Int) (a0_2 : Int) (l0_3 : List (S28)) (a1 : Int) (a2 : Int) (a3 : Int) (a4 : Int) : Option (Bool) := (imageeditorref15_Check.f k a0_0 a0_1 a0_2 l0_3).bind fun t733 => (if t733 = 0 then ((imageeditorlaw15_awake.f k).bind fun t734 => (imageeditorlaw15_WarpPoints.j0 k a1 a2 a3 a4 (!t734) a0_0 a0_1 a0_2 l0_3)) else (imageeditorlaw15_WarpPoints.j0 k a1 a2 a3 a4 true a0_0 a0_1 a0_2 l0_3))
theorem imageeditorlaw15_WarpPoints.mono_l : ∀ k, (∀ y0 y1 y2 y3 y4 y5 y6 y7 y8, LeO (imageeditorlaw15_WarpPoints.j0 k y0 y1 y2 y3 y4 y5 y6 y7 y8) (imageeditorlaw15_WarpPoints.j0 (k + 1) y0 y1 y2 y3 y4 y5 y6 y7 y8)) ∧ (∀ y0 y1 y2 y3 y4 y5 y6, LeO (imageeditorlaw15_WarpPoints.j1 k y0 y1 y2 y3 y4 y5 y6) (imageeditorlaw15_WarpPoints.j1 (k + 1) y0 y1 y2 y3 y4 y5 y6))
 | 0 => ⟨fun _ _ _ _ _ _ _ _ _ r h => by simp [imageeditorlaw15_WarpPoints.j0] at h, fun _ _ _ _ _ _ _ r h => by simp [imageeditorlaw15_WarpPoints.j1] at h⟩
 | k + 1 => by
  obtain ⟨ih0, ih1⟩ := imageeditorlaw15_WarpPoints.mono_l k
  refine ⟨?_, ?_⟩
  ·intro y0 y1 y2 y3 y4 y5 y6 y7 y8
   unfold imageeditorlaw15_WarpPoints.j0
   repeat' first
   | (with_reducible exact ih0 _ _ _ _ _ _ _ _ _)
   | (with_reducible exact ih1 _ _ _ _ _ _ _)
   | (with_reducible exact imageeditorlaw15_awake.mono _)
   | (with_reducible exact imageeditorref15_Check.mono _ _ _ _ _)
   | (with_reducible exact warp_At.mono _ _ _ _ _ _ _)
   | (with_reducible exact warp_Reach.mono _ _ _ _ _)
   | (with_reducible exact LeO.refl _)
   | (with_reducible exact LeO.none _)
   | (with_reducible refine LeO.ite ?_ ?_)
   | (with_reducible refine LeO.bind ?_ (fun _ => ?_))
   | exact ih0 _ _ _ _ _ _ _ _ _
   | exact ih1 _ _ _ _ _ _ _
   | exact imageeditorlaw15_awake.mono _
   | exact imageeditorref15_Check.mono _ _ _ _ _
   | exact warp_At.mono _ _ _ _ _ _ _
   | exact warp_Reach.mono _ _ _ _ _
   | exact LeO.none _
   | refine LeO.ite ?_ ?_
   | refine LeO.bind ?_ (fun _ => ?_)
  ·intro y0 y1 y2 y3 y4 y5 y6
   unfold imageeditorlaw15_WarpPoints.j1
   repeat' first
   | (with_reducible exact ih0 _ _ _ _ _ _ _ _ _)
   | (with_reducible exact ih1 _ _ _ _ _ _ _)
   | (with_reducible exact imageeditorlaw15_awake.mono _)
   | (with_reducible exact imageeditorref15_Check.mono _ _ _ _ _)
   | (with_reducible exact warp_At.mono _ _ _ _ _ _ _)
   | (with_reducible exact warp_Reach.mono _ _ _ _ _)
   | (with_reducible exact LeO.refl _)
   | (with_reducible exact LeO.none _)
   | (with_reducible refine LeO.ite ?_ ?_)
   | (with_reducible refine LeO.bind ?_ (fun _ => ?_))
   | exact ih0 _ _ _ _ _ _ _ _ _
   | exact ih1 _ _ _ _ _ _ _
   | exact imageeditorlaw15_awake.mono _
   | exact imageeditorref15_Check.mono _ _ _ _ _
   | exact warp_At.mono _ _ _ _ _ _ _
   | exact warp_Reach.mono _ _ _ _ _
   | exact LeO.none _
   | refine LeO.ite ?_ ?_
   | refine LeO.bind ?_ (fun _ => ?_)
theorem imageeditorlaw15_WarpPoints.mono : ∀ a0 a1 a2 a3 a4 a5 a6 a7 k, LeO (imageeditorlaw15_WarpPoints.f k a0 a1 a2 a3 a4 a5 a6 a7) (imageeditorlaw15_WarpPoints.f (k + 1) a0 a1 a2 a3 a4 a5 a6 a7) := by
 intro a0 a1 a2 a3 a4 a5 a6 a7 k
 obtain ⟨ih0, ih1⟩ := imageeditorlaw15_WarpPoints.mono_l k
 unfold imageeditorlaw15_WarpPoints.f
 repeat' first
   | (with_reducible exact ih0 _ _ _ _ _ _ _ _ _)
   | (with_reducible exact ih1 _ _ _ _ _ _ _)
   | (with_reducible exact imageeditorlaw15_awake.mono _)
   | (with_reducible exact imageeditorref15_Check.mono _ _ _ _ _)
   | (with_reducible exact warp_At.mono _ _ _ _ _ _ _)
   | (with_reducible exact warp_Reach.mono _ _ _ _ _)
   | (with_reducible exact LeO.refl _)
   | (with_reducible exact LeO.none _)
   | (with_reducible refine LeO.ite ?_ ?_)
   | (with_reducible refine LeO.bind ?_ (fun _ => ?_))
   | exact ih0 _ _ _ _ _ _ _ _ _
   | exact ih1 _ _ _ _ _ _ _
   | exact imageeditorlaw15_awake.mono _
   | exact imageeditorref15_Check.mono _ _ _ _ _
   | exact warp_At.mono _ _ _ _ _ _ _
   | exact warp_Reach.mono _ _ _ _ _
   | exact LeO.none _
   | refine LeO.ite ?_ ?_
   | refine LeO.bind ?_ (fun _ => ?_)
def imageeditorlaw15_WarpPoints.T3 : Bool × List (List Nat × List Nat) := (true, [([], []), ([], []), ([], []), ([0, 1, 2], [0, 1, 2]), ([], []), ([4, 3], [4]), ([], []), ([6, 3, 5, 0, 1, 2, 3, 6], [3, 6]), ([5, 7, 0, 1, 2, 3, 4, 5, 6, 7], [5])])
def imageeditorlaw15_WarpPoints.B3 : List Nat := [0, 0, 0, 7, 0, 31, 0, 127, 255]
theorem imageeditorlaw15_WarpPoints.tab3 : rtab .any (opsOf Try.f6 3) = imageeditorlaw15_WarpPoints.T3 := by kernel_rfl
theorem imageeditorlaw15_WarpPoints.bits3 : waitsOk imageeditorlaw15_WarpPoints.T3.2 imageeditorlaw15_WarpPoints.B3 = true := by kernel_rfl
def imageeditorlaw15_WarpPoints.T8 : Bool × List (List Nat × List Nat) := (true, [([], []), ([], []), ([], []), ([2], [2]), ([1, 3], [1, 3]), ([], []), ([], []), ([6], [6]), ([5, 7], [5, 7]), ([0, 4, 8], [0, 4, 8]), ([], []), ([10], [10]), ([], []), ([], []), ([13], [13]), ([12, 14], [12, 14]), ([], []), ([15, 16], [15, 16]), ([11, 17], [11, 17]), ([18], [18]), ([9, 19], [9, 19]), ([20, 9, 0, 1, 2, 3, 4, 5, 6, 7, 8, 9, 10, 11, 12, 13, 14, 15, 16, 17, 18, 19, 20], [20])])
def imageeditorlaw15_WarpPoints.B8 : List Nat := [0, 0, 0, 4, 14, 0, 0, 64, 224, 511, 0, 1024, 0, 0, 8192, 28672, 0, 126976, 261120, 523264, 1048575, 2097151]
theorem imageeditorlaw15_WarpPoints.tab8 : rtab .any (opsOf Try.f6 8) = imageeditorlaw15_WarpPoints.T8 := by kernel_rfl
theorem imageeditorlaw15_WarpPoints.bits8 : waitsOk imageeditorlaw15_WarpPoints.T8.2 imageeditorlaw15_WarpPoints.B8 = true := by kernel_rfl
set_option maxHeartbeats 8000000 in
set_option maxRecDepth 100000 in
theorem imageeditorlaw15_WarpPoints.callsT (k : Nat) (a0_0 : Int) (a0_1 : Int) (a0_2 : Int) (A0_3 : Option Addr) (c0_3 : Nat) (l0_3 : List (S28)) (a1 : Int) (a2 : Int) (a3 : Int) (a4 : Int) (r : Bool) (w : World) (hr0_3 : Kd.C k28 w A0_3 l0_3.length l0_3) (hc0_3 : l0_3.length ≤ c0_3) (hT : r = true) (h : imageeditorlaw15_WarpPoints.f k a0_0 a0_1 a0_2 l0_3 a1 a2 a3 a4 = some r) :
  Calls Try.prog 6 #[.agg #[.int .i64 a0_0, .int .i64 a0_1, .int .i64 a0_2, .slice A0_3 l0_3.length c0_3], .int .i64 a1, .int .i64 a2, .int .i64 a3, .int .i64 a4] w fun e w' => e = .returned (.bool r) ∧ Below w.heap.size w w' := by
 have hu24 := Try.underlying24
 have hu28 := Try.underlying28
 have HT := Aside0.mk hT
 clear hT
 have HR0_3 := Aside0.mk hr0_3
 have HC0_3 := Aside0.mk hc0_3
 clear hr0_3 hc0_3
 have HB := Aside0.mk (Below.refl w.heap.size w)
 have H : ((imageeditorref15_Check.f k a0_0 a0_1 a0_2 l0_3).bind fun t733 => (if t733 = 0 then ((imageeditorlaw15_awake.f k).bind fun t734 => (imageeditorlaw15_WarpPoints.j0 k a1 a2 a3 a4 (!t734) a0_0 a0_1 a0_2 l0_3)) else (imageeditorlaw15_WarpPoints.j0 k a1 a2 a3 a4 true a0_0 a0_1 a0_2 l0_3))) = some r := h
 clear h
 have HC6 := Aside0.mk H
 clear H
 go_enter Try.func6, Try.ntmps6
 go_upto_region 1 with (first | ((with_reducible refine gate_dst (N := 5) rfl ?_); refine box_event ?hg (N := 5) ?hd (cs := #[.int .i64 a0_0, .int .i64 a0_1, .int .i64 a0_2, .slice A0_3 l0_3.length c0_3]) (t := 24) ?hr ?_; (case hd => rfl); (case hg => rfl); (case hr => first | (go_simp; done) | (go_simp; rfl)); intro gb732 hg w7 hbox hb; have GW732 := zg HB hg; have GE732 := zg HB hg; have n0_ := Aside0.mk (hbox); replace HB := zb HB hb; have BK732 := n0_; clear n0_; clear hb hbox hg))
 (try simp only [Act.put, sA, sB, sC])
 go_cut [19] (fun v19 wc => ∃ (kq : Nat) (x19_5 : Bool), v19 = .bool x19_5 ∧ Aside0 (imageeditorlaw15_WarpPoints.j0 kq a1 a2 a3 a4 x19_5 a0_0 a0_1 a0_2 l0_3 = some r) ∧ Aside0 (kq ≤ k) ∧ Aside0 (wc.heap[gb732]? = some (.cells #[.int .i64 a0_0, .int .i64 a0_1, .int .i64 a0_2, (.slice A0_3 l0_3.length c0_3)] 24 (0, 0))) ∧ Aside0 (Below w.heap.size w wc))
 case first =>
  have H := HC6.out
  clear HC6
  replace H := Option.bind_eq_some_iff.mp H
  obtain ⟨t733, A80, H⟩ := H
  replace H : (if t733 = 0 then ((imageeditorlaw15_awake.f k).bind fun t734 => (imageeditorlaw15_WarpPoints.j0 k a1 a2 a3 a4 (!t734) a0_0 a0_1 a0_2 l0_3)) else (imageeditorlaw15_WarpPoints.j0 k a1 a2 a3 a4 true a0_0 a0_1 a0_2 l0_3)) = some r := H
  have A8 := Aside0.mk A80
  clear A80
  by_cases c9 : t733 = 0
  ·rw [if_pos c9] at H
   have c9b0 : (t733 == 0) = true := beq_iff_eq.mpr c9
   have c9b1 : (t733 != 0) = false := bne_eq_false_iff_eq.mpr c9
   clear c9
   (first | rw [c9b0] | (simp only [i64_w, i32_w]; rw [c9b0]) | skip)
   replace H := Option.bind_eq_some_iff.mp H
   obtain ⟨t734, A100, H⟩ := H
   replace H : (imageeditorlaw15_WarpPoints.j0 k a1 a2 a3 a4 (!t734) a0_0 a0_1 a0_2 l0_3) = some r := H
   have A10 := Aside0.mk A100
   clear A100
   as_aux_lemma =>
    have H' := Aside0.mk H
    clear H
    obtain ⟨hcz11_0, hcz11_1, hcz11_2, hcz11_3, hfz11_0, hfz11_1, hfz11_2, hfz11_3⟩ := zq4 BK732
    go_wp2_with (first | ((with_reducible refine gate_callee (f := 11) rfl ?_); refine goesL_ (some 14) rfl rfl Try.func11 (by kernel_rfl) rfl #[.agg #[.int .i64 a0_0, .int .i64 a0_1, .int .i64 a0_2, .slice A0_3 l0_3.length c0_3]] rfl (by (try simp only [List.map_toArray, List.map_cons, List.map_nil]); first | done | rfl | (simp only [List.length_drop, List.length_take]; rfl)) ?_; (with_reducible refine (imageeditorref15_Check.calls k a0_0 a0_1 a0_2 _ _ l0_3 t733 _ ?side1 ?side2 A8.out).mono ?_); (case side1 => repeat (first | exact (Kd.C_below HR0_3.out HB.out) | (with_reducible refine Kd.C_alloc ?_ _) | (with_reducible refine Kd.C_drewN ?_ _) | (with_reducible refine Kd.C_drew ?_))); (case side2 => exact HC0_3.out); rintro e w12 ⟨rfl, hb⟩; refine ⟨_, rfl, ?_⟩; replace BK732 := zk BK732 hb; replace HB := zb HB hb; (try clear hb); (try clear hb2); (try clear hk); (try clear hi)) | (go_at_call 16; (with_reducible refine (imageeditorlaw15_awake.calls k  t734 _ A10.out).mono ?_); rintro e w13 ⟨rfl, hb⟩; replace BK732 := zk BK732 hb; replace HB := zb HB hb; (try clear hb); (try clear hb2); (try clear hk); (try clear hi)))
    go_meet
    case rel => exact ⟨_, (!t734), (by first | rfl | (simp; done) | (simp [*]; done)), H', ⟨by first | omega | exact Nat.le_refl _⟩, ⟨by exact zk0 BK732⟩, ⟨by exact zb0 HB⟩⟩
  ·rw [if_neg c9] at H
   have c9b0 : (t733 == 0) = false := beq_eq_false_iff_ne.mpr c9
   have c9b1 : (t733 != 0) = true := bne_iff_ne.mpr c9
   (first | rw [c9b0] | (simp only [i64_w, i32_w]; rw [c9b0]) | skip)
   as_aux_lemma =>
    have H' := Aside0.mk H
    clear H
    obtain ⟨hcz14_0, hcz14_1, hcz14_2, hcz14_3, hfz14_0, hfz14_1, hfz14_2, hfz14_3⟩ := zq4 BK732
    go_wp2_with (first | ((with_reducible refine gate_callee (f := 11) rfl ?_); refine goesL_ (some 14) rfl rfl Try.func11 (by kernel_rfl) rfl #[.agg #[.int .i64 a0_0, .int .i64 a0_1, .int .i64 a0_2, .slice A0_3 l0_3.length c0_3]] rfl (by (try simp only [List.map_toArray, List.map_cons, List.map_nil]); first | done | rfl | (simp only [List.length_drop, List.length_take]; rfl)) ?_; (with_reducible refine (imageeditorref15_Check.calls k a0_0 a0_1 a0_2 _ _ l0_3 t733 _ ?side1 ?side2 A8.out).mono ?_); (case side1 => repeat (first | exact (Kd.C_below HR0_3.out HB.out) | (with_reducible refine Kd.C_alloc ?_ _) | (with_reducible refine Kd.C_drewN ?_ _) | (with_reducible refine Kd.C_drew ?_))); (case side2 => exact HC0_3.out); rintro e w15 ⟨rfl, hb⟩; refine ⟨_, rfl, ?_⟩; replace BK732 := zk BK732 hb; replace HB := zb HB hb; (try clear hb); (try clear hb2); (try clear hk); (try clear hi)))
    go_meet
    case rel => exact ⟨_, (true), (by first | rfl | (simp; done) | (simp [*]; done)), H', ⟨by first | omega | exact Nat.le_refl _⟩, ⟨by exact zk0 BK732⟩, ⟨by exact zb0 HB⟩⟩
 case rest =>
  clear HC6
  try clear c1
  try clear p2
  try clear q4
  try clear c6
  try clear c9
  try clear c9b0
  try clear c9b1
  try clear c11
  try clear hcz11_0
  try clear hcz11_1
  try clear hcz11_2
  try clear hcz11_3
  try clear hcz14_0
  try clear hcz14_1
  try clear hcz14_2
  try clear hcz14_3
  try clear hfz11_0
  try clear hfz11_1
  try clear hfz11_2
  try clear hfz11_3
  try clear hfz14_0
  try clear hfz14_1
  try clear hfz14_2
  try clear hfz14_3
  obtain ⟨kq, x19_5, rfl, HA, HJ5, BK732, HB⟩ := hcut
  cases kq with
  | zero => exact absurd HA.out (by simp [imageeditorlaw15_WarpPoints.j0])
  | succ kj5 =>
   have H := HA.out
   clear HA
   simp only [imageeditorlaw15_WarpPoints.j0] at H
   by_cases c16 : x19_5 = true
   ·subst c16
    have H1 : ((imageeditorlaw15_awake.f kj5).bind fun t735 => (some t735)) = some r := by rw [if_pos rfl] at H; exact H
    clear H
    have H := H1
    clear H1
    replace H := Option.bind_eq_some_iff.mp H
    obtain ⟨t735, A170, H⟩ := H
    replace H : (some t735) = some r := H
    have A17 := Aside0.mk A170
    clear A170
    as_aux_lemma =>
     obtain rfl := Option.some.inj H
     (try clear BK732)
     go_wp2_with (first | ((with_reducible refine gate_callee (f := 16) rfl ?_); refine goesL_ (some 20) rfl rfl Try.func16 (by kernel_rfl) rfl #[] rfl (by (try simp only [List.map_toArray, List.map_cons, List.map_nil]); first | done | rfl | (simp only [List.length_drop, List.length_take]; rfl)) ?_; (with_reducible refine (imageeditorlaw15_awake.calls kj5  t735 _ A17.out).mono ?_); rintro e w18 ⟨rfl, hb⟩; refine ⟨_, rfl, ?_⟩; replace HB := zb HB hb; (try clear hb); (try clear hb2); (try clear hk); (try clear hi)))
     go_ret
     exact ⟨by first | rfl | (simp [errW_none, errW_some] <;> rfl) | (simp [*, errW_none, errW_some] <;> rfl), by exact zb0 HB⟩
   ·replace c16 := Bool.eq_false_iff.mpr c16
    subst c16
    have H1 : ((warp_At.f kj5 a0_0 a0_1 a0_2 l0_3 a3 a4).bind fun bt736 => ((warp_Reach.f kj5 a0_0 a0_1 a0_2 l0_3).bind fun t738 => (if t738 < 0 then (imageeditorlaw15_WarpPoints.j1 kj5 a1 a2 true a0_0 a0_1 a0_2 l0_3) else (if t738 > 16 then (imageeditorlaw15_WarpPoints.j1 kj5 a1 a2 true a0_0 a0_1 a0_2 l0_3) else (if bt736.1 > (wrap64 (t738 * 65536)) then (imageeditorlaw15_WarpPoints.j1 kj5 a1 a2 true a0_0 a0_1 a0_2 l0_3) else (if bt736.1 < (wrap64 ((wrap64 (-t738)) * 65536)) then (imageeditorlaw15_WarpPoints.j1 kj5 a1 a2 true a0_0 a0_1 a0_2 l0_3) else (if bt736.2 > (wrap64 (t738 * 65536)) then (imageeditorlaw15_WarpPoints.j1 kj5 a1 a2 true a0_0 a0_1 a0_2 l0_3) else (imageeditorlaw15_WarpPoints.j1 kj5 a1 a2 (decide (bt736.2 < (wrap64 ((wrap64 (-t738)) * 65536)))) a0_0 a0_1 a0_2 l0_3)))))))) = some r := by rw [if_neg (show ¬ (false = true) by decide)] at H; exact H
    clear H
    have H := H1
    clear H1
    replace H := Option.bind_eq_some_iff.mp H
    obtain ⟨⟨t736, t737⟩, A190, H⟩ := H
    replace H : ((warp_Reach.f kj5 a0_0 a0_1 a0_2 l0_3).bind fun t738 => (if t738 < 0 then (imageeditorlaw15_WarpPoints.j1 kj5 a1 a2 true a0_0 a0_1 a0_2 l0_3) else (if t738 > 16 then (imageeditorlaw15_WarpPoints.j1 kj5 a1 a2 true a0_0 a0_1 a0_2 l0_3) else (if t736 > (wrap64 (t738 * 65536)) then (imageeditorlaw15_WarpPoints.j1 kj5 a1 a2 true a0_0 a0_1 a0_2 l0_3) else (if t736 < (wrap64 ((wrap64 (-t738)) * 65536)) then (imageeditorlaw15_WarpPoints.j1 kj5 a1 a2 true a0_0 a0_1 a0_2 l0_3) else (if t737 > (wrap64 (t738 * 65536)) then (imageeditorlaw15_WarpPoints.j1 kj5 a1 a2 true a0_0 a0_1 a0_2 l0_3) else (imageeditorlaw15_WarpPoints.j1 kj5 a1 a2 (decide (t737 < (wrap64 ((wrap64 (-t738)) * 65536)))) a0_0 a0_1 a0_2 l0_3))))))) = some r := H
    have A19 := Aside0.mk A190
    clear A190
    replace H := Option.bind_eq_some_iff.mp H
    obtain ⟨t738, A200, H⟩ := H
    replace H : (if t738 < 0 then (imageeditorlaw15_WarpPoints.j1 kj5 a1 a2 true a0_0 a0_1 a0_2 l0_3) else (if t738 > 16 then (imageeditorlaw15_WarpPoints.j1 kj5 a1 a2 true a0_0 a0_1 a0_2 l0_3) else (if t736 > (wrap64 (t738 * 65536)) then (imageeditorlaw15_WarpPoints.j1 kj5 a1 a2 true a0_0 a0_1 a0_2 l0_3) else (if t736 < (wrap64 ((wrap64 (-t738)) * 65536)) then (imageeditorlaw15_WarpPoints.j1 kj5 a1 a2 true a0_0 a0_1 a0_2 l0_3) else (if t737 > (wrap64 (t738 * 65536)) then (imageeditorlaw15_WarpPoints.j1 kj5 a1 a2 true a0_0 a0_1 a0_2 l0_3) else (imageeditorlaw15_WarpPoints.j1 kj5 a1 a2 (decide (t737 < (wrap64 ((wrap64 (-t738)) * 65536)))) a0_0 a0_1 a0_2 l0_3)))))) = some r := H
    have A20 := Aside0.mk A200
    clear A200
    have HC21 := Aside0.mk H
    clear H
    try go_wp2
    replace BK732 := zkd BK732
    replace HB := zbd HB
    refine start_ (n := 9) (S := fun w' => w'.cell? ⟨gb732, 0, none⟩ = some (.int .i64 a0_0) ∧ w'.cell? ⟨gb732, 1, none⟩ = some (.int .i64 a0_1) ∧ w'.cell? ⟨gb732, 2, none⟩ = some (.int .i64 a0_2) ∧ w'.cell? ⟨gb732, 3, none⟩ = some (.slice A0_3 l0_3.length c0_3)) (ds := []) (bs 9 0) (by kernel_rfl) rfl rfl ⟨(blk_cell BK732.out 0).trans rfl, (blk_cell BK732.out 1).trans rfl, (blk_cell BK732.out 2).trans rfl, (blk_cell BK732.out 3).trans rfl⟩ (fun hHeld => ?_); refine with_tabW imageeditorlaw15_WarpPoints.tab3 imageeditorlaw15_WarpPoints.bits3 (fun HT_ HW_ => ?_)
    generalize wc.drew = w22 at BK732 HB hHeld ⊢
    refine pure_ (i := 1) (N := some 22) (v := ?_) (a' := ?_) (bs 9 2) rfl rfl (any_of HT_.out (by kernel_rfl)) (fun _ _ _ h => h) (Or.inl ⟨by rfl, ?_⟩) ?_ ?_
    rotate_left
    ·intro w'
     go_simp
     with_reducible rfl
    rotate_left
    ·simp only [Act.put, sA, sB, sC, i64_w, i32_w]
     rfl
    refine pure_ (i := 2) (N := some 23) (v := ?_) (a' := ?_) (bs 9 6) rfl rfl (any_of HT_.out (by kernel_rfl)) (fun _ _ _ h => h) (Or.inl ⟨by rfl, ?_⟩) ?_ ?_
    rotate_left
    ·intro w'
     go_simp
     with_reducible rfl
    rotate_left
    ·simp only [Act.put, sA, sB, sC, i64_w, i32_w]
     rfl
    refine take_ (i := 0) (N := some 21) (v := ?_) (a' := ?_) (bs 9 7) rfl rfl (take_ofW HT_.out HW_.out (by kernel_rfl)) (fun _ _ _ h => h) (Or.inl ⟨by rfl, ?_⟩) hHeld ?_ ?_
    rotate_left
    ·rintro w' ⟨s0, s1, s2, s3⟩
     go_simp
     with_reducible rfl
    rotate_left
    ·simp only [Act.put, sA, sB, sC, i64_w, i32_w]
     rfl
    refine take_ (i := 4) (N := some 25) (v := ?_) (a' := ?_) (bs 9 23) rfl rfl (take_ofW HT_.out HW_.out (by kernel_rfl)) (fun _ _ _ h => h) (Or.inl ⟨by rfl, ?_⟩) hHeld ?_ ?_
    rotate_left
    ·rintro w' ⟨s0, s1, s2, s3⟩
     go_simp
     with_reducible rfl
    rotate_left
    ·simp only [Act.put, sA, sB, sC, i64_w, i32_w]
     rfl
    refine join_ (σ := Nat) 2 (bs 9 127) (fun s_ => [(24, .agg #[.int .i64 t736, .int .i64 t737]), (26, .int .i64 t738), (11, .pointer (some ⟨s_, 0, none⟩))]) (fun s_ w' => (w'.cell? ⟨gb732, 0, none⟩ = some (.int .i64 a0_0) ∧ w'.cell? ⟨gb732, 1, none⟩ = some (.int .i64 a0_1) ∧ w'.cell? ⟨gb732, 2, none⟩ = some (.int .i64 a0_2) ∧ w'.cell? ⟨gb732, 3, none⟩ = some (.slice A0_3 l0_3.length c0_3)) ∧ (w'.heap[gb732]? = some (.cells #[.int .i64 a0_0, .int .i64 a0_1, .int .i64 a0_2, .slice A0_3 l0_3.length c0_3] 24 (0, 0))) ∧ (w'.heap[s_]? = some (.cells #[.int .i64 0, .int .i64 0] 28 (0, 0))) ∧ (w.heap.size ≤ s_) ∧ (w.heap.size ≤ s_) ∧ (gb732 ≠ s_) ∧ (s_ ≠ gb732) ∧ (Below w.heap.size w w')) ?_ ?_
    rotate_left
    ·intro hCont
     refine two_ (i := 3) (j := 6) (Ni := some 24) (Nj := some 11) (bs 9 31) (bs 9 87) rfl rfl rfl rfl (two_of HT_.out (by kernel_rfl)) (by decide) (by decide) (fun K hK => ?_) (fun K hK => ?_)
     ·skip
      refine goes_ Try.func12 (by kernel_rfl) rfl #[.agg #[.int .i64 a0_0, .int .i64 a0_1, .int .i64 a0_2, .slice A0_3 l0_3.length c0_3], .int .i64 a3, .int .i64 a4] (by rfl) rfl rfl (by (try simp only [List.map_toArray, List.map_cons, List.map_nil]); first | done | rfl | (simp only [List.length_drop, List.length_take]; rfl)) ?_
      with_reducible refine (warp_At.calls kj5 a0_0 a0_1 a0_2 _ _ l0_3 a3 a4 t736 t737 _ ?side1 ?side2 A19.out).mono ?_
      (case side1 => repeat (first | exact (Kd.C_below HR0_3.out HB.out) | (with_reducible refine Kd.C_alloc ?_ _) | (with_reducible refine Kd.C_drewN ?_ _) | (with_reducible refine Kd.C_drew ?_)))
      (case side2 => exact HC0_3.out)
      rintro e w23 ⟨rfl, hb⟩
      refine ⟨_, rfl, ?_⟩
      replace BK732 := zk BK732 hb
      replace HB := zb HB hb
      (try clear hb)
      (try clear hb2)
      (try clear hk)
      (try clear hi)
      refine hK.out _ _ ⟨(blk_cell BK732.out 0).trans rfl, (blk_cell BK732.out 1).trans rfl, (blk_cell BK732.out 2).trans rfl, (blk_cell BK732.out 3).trans rfl⟩ (fun hHeld => ?_)
      clear hK K
      refine norm_ (a' := ?_) ?_ ?_
      rotate_left
      ·show Act.put _ (some 24) _ = _
       simp only [Act.put, sA, sB, sC, i64_w, i32_w]
       rfl
      refine two_ (i := 5) (j := 6) (Ni := some 26) (Nj := some 11) (bs 9 63) (bs 9 95) rfl rfl rfl rfl (two_of HT_.out (by kernel_rfl)) (by decide) (by decide) (fun K hK => ?_) (fun K hK => ?_)
      ·skip
       refine goes_ Try.func14 (by kernel_rfl) rfl #[.agg #[.int .i64 a0_0, .int .i64 a0_1, .int .i64 a0_2, .slice A0_3 l0_3.length c0_3]] (by rfl) rfl rfl (by (try simp only [List.map_toArray, List.map_cons, List.map_nil]); first | done | rfl | (simp only [List.length_drop, List.length_take]; rfl)) ?_
       with_reducible refine (warp_Reach.calls kj5 a0_0 a0_1 a0_2 _ _ l0_3 t738 _ ?side1 ?side2 A20.out).mono ?_
       (case side1 => repeat (first | exact (Kd.C_below HR0_3.out HB.out) | (with_reducible refine Kd.C_alloc ?_ _) | (with_reducible refine Kd.C_drewN ?_ _) | (with_reducible refine Kd.C_drew ?_)))
       (case side2 => exact HC0_3.out)
       rintro e w24 ⟨rfl, hb⟩
       refine ⟨_, rfl, ?_⟩
       replace BK732 := zk BK732 hb
       replace HB := zb HB hb
       (try clear hb)
       (try clear hb2)
       (try clear hk)
       (try clear hi)
       refine hK.out _ _ ⟨(blk_cell BK732.out 0).trans rfl, (blk_cell BK732.out 1).trans rfl, (blk_cell BK732.out 2).trans rfl, (blk_cell BK732.out 3).trans rfl⟩ (fun hHeld => ?_)
       clear hK K
       refine norm_ (a' := ?_) ?_ ?_
       rotate_left
       ·show Act.put _ (some 26) _ = _
        simp only [Act.put, sA, sB, sC, i64_w, i32_w]
        rfl
       refine one_ (i := 6) (N := some 11) (bs 9 127) rfl rfl (one_of HT_.out (by kernel_rfl)) (by decide) (fun K hK => ?_)
       refine box_step ?hg (N := 11) ?hd (cs := #[.int .i64 0, .int .i64 0]) (t := 28) ?hr ?_; (case hd => rfl); (case hg => rfl); (case hr => first | (go_simp; done) | (go_simp; rfl))
       intro gb739 hg w25 hbox hb
       have GW739 := zg HB hg
       have GE739 := zg HB hg
       have NB732_739 := zn BK732 hg
       have NB739_732 := zn' BK732 hg
       have n0_ := Aside0.mk (hbox)
       replace BK732 := zk BK732 hb
       replace HB := zb HB hb
       have BK739 := n0_
       clear n0_
       clear hb hbox hg
       refine hK.out _ _ ⟨(blk_cell BK732.out 0).trans rfl, (blk_cell BK732.out 1).trans rfl, (blk_cell BK732.out 2).trans rfl, (blk_cell BK732.out 3).trans rfl⟩ (fun hHeld => ?_)
       clear hK K
       refine norm_ (a' := ?_) ?_ ?_
       rotate_left
       ·show Act.put _ (some 11) _ = _
        simp only [Act.put, sA, sB, sC, i64_w, i32_w]
        rfl
       exact norm_ (by simp only [putAll, Act.put, sA, sB, sC]) (hCont (gb739) _ ⟨hHeld, (by exact zk0 BK732), (by exact zk0 BK739), GW739.out, GE739.out, NB732_739.out, NB739_732.out, (by exact zb0 HB)⟩)
      ·skip
       refine box_step ?hg (N := 11) ?hd (cs := #[.int .i64 0, .int .i64 0]) (t := 28) ?hr ?_; (case hd => rfl); (case hg => rfl); (case hr => first | (go_simp; done) | (go_simp; rfl))
       intro gb739 hg w24 hbox hb
       have GW739 := zg HB hg
       have GE739 := zg HB hg
       have NB732_739 := zn BK732 hg
       have NB739_732 := zn' BK732 hg
       have n0_ := Aside0.mk (hbox)
       replace BK732 := zk BK732 hb
       replace HB := zb HB hb
       have BK739 := n0_
       clear n0_
       clear hb hbox hg
       refine hK.out _ _ ⟨(blk_cell BK732.out 0).trans rfl, (blk_cell BK732.out 1).trans rfl, (blk_cell BK732.out 2).trans rfl, (blk_cell BK732.out 3).trans rfl⟩ (fun hHeld => ?_)
       clear hK K
       refine norm_ (a' := ?_) ?_ ?_
       rotate_left
       ·show Act.put _ (some 11) _ = _
        simp only [Act.put, sA, sB, sC, i64_w, i32_w]
        rfl
       refine one_ (i := 5) (N := some 26) (bs 9 127) rfl rfl (one_of HT_.out (by kernel_rfl)) (by decide) (fun K hK => ?_)
       refine goes_ Try.func14 (by kernel_rfl) rfl #[.agg #[.int .i64 a0_0, .int .i64 a0_1, .int .i64 a0_2, .slice A0_3 l0_3.length c0_3]] (by rfl) rfl rfl (by (try simp only [List.map_toArray, List.map_cons, List.map_nil]); first | done | rfl | (simp only [List.length_drop, List.length_take]; rfl)) ?_
       with_reducible refine (warp_Reach.calls kj5 a0_0 a0_1 a0_2 _ _ l0_3 t738 _ ?side1 ?side2 A20.out).mono ?_
       (case side1 => repeat (first | exact (Kd.C_below HR0_3.out HB.out) | (with_reducible refine Kd.C_alloc ?_ _) | (with_reducible refine Kd.C_drewN ?_ _) | (with_reducible refine Kd.C_drew ?_)))
       (case side2 => exact HC0_3.out)
       rintro e w25 ⟨rfl, hb⟩
       refine ⟨_, rfl, ?_⟩
       replace BK732 := zk BK732 hb
       replace BK739 := zk BK739 hb
       replace HB := zb HB hb
       (try clear hb)
       (try clear hb2)
       (try clear hk)
       (try clear hi)
       refine hK.out _ _ ⟨(blk_cell BK732.out 0).trans rfl, (blk_cell BK732.out 1).trans rfl, (blk_cell BK732.out 2).trans rfl, (blk_cell BK732.out 3).trans rfl⟩ (fun hHeld => ?_)
       clear hK K
       refine norm_ (a' := ?_) ?_ ?_
       rotate_left
       ·show Act.put _ (some 26) _ = _
        simp only [Act.put, sA, sB, sC, i64_w, i32_w]
        rfl
       exact norm_ (by simp only [putAll, Act.put, sA, sB, sC]) (hCont (gb739) _ ⟨hHeld, (by exact zk0 BK732), (by exact zk0 BK739), GW739.out, GE739.out, NB732_739.out, NB739_732.out, (by exact zb0 HB)⟩)
     ·skip
      refine box_step ?hg (N := 11) ?hd (cs := #[.int .i64 0, .int .i64 0]) (t := 28) ?hr ?_; (case hd => rfl); (case hg => rfl); (case hr => first | (go_simp; done) | (go_simp; rfl))
      intro gb739 hg w23 hbox hb
      have GW739 := zg HB hg
      have GE739 := zg HB hg
      have NB732_739 := zn BK732 hg
      have NB739_732 := zn' BK732 hg
      have n0_ := Aside0.mk (hbox)
      replace BK732 := zk BK732 hb
      replace HB := zb HB hb
      have BK739 := n0_
      clear n0_
      clear hb hbox hg
      refine hK.out _ _ ⟨(blk_cell BK732.out 0).trans rfl, (blk_cell BK732.out 1).trans rfl, (blk_cell BK732.out 2).trans rfl, (blk_cell BK732.out 3).trans rfl⟩ (fun hHeld => ?_)
      clear hK K
      refine norm_ (a' := ?_) ?_ ?_
      rotate_left
      ·show Act.put _ (some 11) _ = _
       simp only [Act.put, sA, sB, sC, i64_w, i32_w]
       rfl
      refine one_ (i := 3) (N := some 24) (bs 9 95) rfl rfl (one_of HT_.out (by kernel_rfl)) (by decide) (fun K hK => ?_)
      refine goes_ Try.func12 (by kernel_rfl) rfl #[.agg #[.int .i64 a0_0, .int .i64 a0_1, .int .i64 a0_2, .slice A0_3 l0_3.length c0_3], .int .i64 a3, .int .i64 a4] (by rfl) rfl rfl (by (try simp only [List.map_toArray, List.map_cons, List.map_nil]); first | done | rfl | (simp only [List.length_drop, List.length_take]; rfl)) ?_
      with_reducible refine (warp_At.calls kj5 a0_0 a0_1 a0_2 _ _ l0_3 a3 a4 t736 t737 _ ?side1 ?side2 A19.out).mono ?_
      (case side1 => repeat (first | exact (Kd.C_below HR0_3.out HB.out) | (with_reducible refine Kd.C_alloc ?_ _) | (with_reducible refine Kd.C_drewN ?_ _) | (with_reducible refine Kd.C_drew ?_)))
      (case side2 => exact HC0_3.out)
      rintro e w24 ⟨rfl, hb⟩
      refine ⟨_, rfl, ?_⟩
      replace BK732 := zk BK732 hb
      replace BK739 := zk BK739 hb
      replace HB := zb HB hb
      (try clear hb)
      (try clear hb2)
      (try clear hk)
      (try clear hi)
      refine hK.out _ _ ⟨(blk_cell BK732.out 0).trans rfl, (blk_cell BK732.out 1).trans rfl, (blk_cell BK732.out 2).trans rfl, (blk_cell BK732.out 3).trans rfl⟩ (fun hHeld => ?_)
      clear hK K
      refine norm_ (a' := ?_) ?_ ?_
      rotate_left
      ·show Act.put _ (some 24) _ = _
       simp only [Act.put, sA, sB, sC, i64_w, i32_w]
       rfl
      refine one_ (i := 5) (N := some 26) (bs 9 127) rfl rfl (one_of HT_.out (by kernel_rfl)) (by decide) (fun K hK => ?_)
      refine goes_ Try.func14 (by kernel_rfl) rfl #[.agg #[.int .i64 a0_0, .int .i64 a0_1, .int .i64 a0_2, .slice A0_3 l0_3.length c0_3]] (by rfl) rfl rfl (by (try simp only [List.map_toArray, List.map_cons, List.map_nil]); first | done | rfl | (simp only [List.length_drop, List.length_take]; rfl)) ?_
      with_reducible refine (warp_Reach.calls kj5 a0_0 a0_1 a0_2 _ _ l0_3 t738 _ ?side1 ?side2 A20.out).mono ?_
      (case side1 => repeat (first | exact (Kd.C_below HR0_3.out HB.out) | (with_reducible refine Kd.C_alloc ?_ _) | (with_reducible refine Kd.C_drewN ?_ _) | (with_reducible refine Kd.C_drew ?_)))
      (case side2 => exact HC0_3.out)
      rintro e w25 ⟨rfl, hb⟩
      refine ⟨_, rfl, ?_⟩
      replace BK732 := zk BK732 hb
      replace BK739 := zk BK739 hb
      replace HB := zb HB hb
      (try clear hb)
      (try clear hb2)
      (try clear hk)
      (try clear hi)
      refine hK.out _ _ ⟨(blk_cell BK732.out 0).trans rfl, (blk_cell BK732.out 1).trans rfl, (blk_cell BK732.out 2).trans rfl, (blk_cell BK732.out 3).trans rfl⟩ (fun hHeld => ?_)
      clear hK K
      refine norm_ (a' := ?_) ?_ ?_
      rotate_left
      ·show Act.put _ (some 26) _ = _
       simp only [Act.put, sA, sB, sC, i64_w, i32_w]
       rfl
      exact norm_ (by simp only [putAll, Act.put, sA, sB, sC]) (hCont (gb739) _ ⟨hHeld, (by exact zk0 BK732), (by exact zk0 BK739), GW739.out, GE739.out, NB732_739.out, NB739_732.out, (by exact zb0 HB)⟩)
    rintro gb739 w26 ⟨hS_, h0_, h1_, h2_, h3_, h4_, h5_, h6_⟩
    have n0_ : Aside0 (w26.heap[gb732]? = some (.cells #[.int .i64 a0_0, .int .i64 a0_1, .int .i64 a0_2, .slice A0_3 l0_3.length c0_3] 24 (0, 0))) := ⟨h0_⟩
    have n1_ : Aside0 (w26.heap[gb739]? = some (.cells #[.int .i64 0, .int .i64 0] 28 (0, 0))) := ⟨h1_⟩
    have n2_ : Aside0 (w.heap.size ≤ gb739) := ⟨h2_⟩
    have n3_ : Aside0 (w.heap.size ≤ gb739) := ⟨h3_⟩
    have n4_ : Aside0 (gb732 ≠ gb739) := ⟨h4_⟩
    have n5_ : Aside0 (gb739 ≠ gb732) := ⟨h5_⟩
    have n6_ : Aside0 (Below w.heap.size w w26) := ⟨h6_⟩
    clear BK732
    clear HB
    clear h0_ h1_ h2_ h3_ h4_ h5_ h6_
    have BK732 := n0_
    have BK739 := n1_
    have GW739 := n2_
    have GE739 := n3_
    have NB732_739 := n4_
    have NB739_732 := n5_
    have HB := n6_
    clear n0_ n1_ n2_ n3_ n4_ n5_ n6_
    have hHeld : w26.cell? ⟨gb732, 0, none⟩ = some (.int .i64 a0_0) ∧ w26.cell? ⟨gb732, 1, none⟩ = some (.int .i64 a0_1) ∧ w26.cell? ⟨gb732, 2, none⟩ = some (.int .i64 a0_2) ∧ w26.cell? ⟨gb732, 3, none⟩ = some (.slice A0_3 l0_3.length c0_3) := hS_
    refine norm_ (a' := ?_) ?_ ?_
    rotate_left
    ·simp only [putAll, Act.put, sA, sB, sC]
     rfl
    refine one_ (i := 7) (N := none) (bs 9 255) rfl rfl (one_of HT_.out (by kernel_rfl)) (by decide) (fun K hK => ?_)
    have hs27 : w26.cell? ⟨gb739, 0, none⟩ = some (.int .i64 0) := (blk_cell BK739.out 0).trans rfl
    have hfs27 := blk_frozen BK739.out 0
    have hns27_0 := NB732_739.out
    have hms27_0 := NB739_732.out
    have hs28 : w26.cell? ⟨gb739, 1, none⟩ = some (.int .i64 0) := (blk_cell BK739.out 1).trans rfl
    have hfs28 := blk_frozen BK739.out 1
    have hns28_0 := NB732_739.out
    have hms28_0 := NB739_732.out
    refine skip_ (w1 := ?_) (by rfl) rfl ?_ ?_
    rotate_left
    ·go_simp
     rfl
    refine hK.out _ _ ⟨((cell_far (p := ⟨gb739, _, none⟩) NB732_739.out _).trans (((cell_far (p := ⟨gb739, _, none⟩) NB732_739.out _).trans (hHeld.1)))), ((cell_far (p := ⟨gb739, _, none⟩) NB732_739.out _).trans (((cell_far (p := ⟨gb739, _, none⟩) NB732_739.out _).trans (hHeld.2.1)))), ((cell_far (p := ⟨gb739, _, none⟩) NB732_739.out _).trans (((cell_far (p := ⟨gb739, _, none⟩) NB732_739.out _).trans (hHeld.2.2.1)))), ((cell_far (p := ⟨gb739, _, none⟩) NB732_739.out _).trans (((cell_far (p := ⟨gb739, _, none⟩) NB732_739.out _).trans (hHeld.2.2.2))))⟩ (fun hHeld => ?_)
    clear hK K
    refine pure_ (i := 8) (N := some 12) (v := ?_) (a' := ?_) (bs 9 511) rfl rfl (any_of HT_.out (by kernel_rfl)) (fun _ _ _ h => h) (Or.inl ⟨by rfl, ?_⟩) ?_ ?_
    rotate_left
    ·intro w'
     go_simp
     with_reducible rfl
    rotate_left
    ·simp only [Act.put, sA, sB, sC, i64_w, i32_w]
     rfl
    refine done_ (done_of HT_.out (by kernel_rfl)) ?_
    go_upto_region 4 with (fail)
    go_cut [62] (fun v62 wc => ∃ (kq : Nat) (x62_20 : Bool), v62 = .bool x62_20 ∧ Aside0 (imageeditorlaw15_WarpPoints.j1 kq a1 a2 x62_20 a0_0 a0_1 a0_2 l0_3 = some r) ∧ Aside0 (kq ≤ kj5) ∧ Aside0 (wc.heap[gb732]? = some (.cells #[.int .i64 a0_0, .int .i64 a0_1, .int .i64 a0_2, (.slice A0_3 l0_3.length c0_3)] 24 (0, 0))) ∧ Aside0 (wc.heap[gb739]? = some (.cells #[.int .i64 t736, .int .i64 t737] 28 (0, 0))) ∧ Aside0 (Below w.heap.size w wc))
    case first =>
     have H := HC21.out
     clear HC21
     by_cases c29 : t738 < 0
     ·rw [if_pos c29] at H
      have c29b0 : decide (t738 < 0) = true := decide_eq_true c29
      clear c29
      (first | rw [c29b0] | (simp only [i64_w, i32_w]; rw [c29b0]) | skip)
      as_aux_lemma =>
       have H' := Aside0.mk H
       clear H
       go_wp2
       go_meet
       case rel => exact ⟨_, (true), (by first | rfl | (simp; done) | (simp [*]; done)), H', ⟨by have := HJ5.out; first | omega | exact Nat.le_refl _⟩, ⟨by exact zf BK732 NB732_739⟩, ⟨by exact zp BK739 rfl⟩, ⟨by exact zbo HB GE739⟩⟩
     ·rw [if_neg c29] at H
      have c29b0 : decide (t738 < 0) = false := decide_eq_false c29
      clear c29
      (first | rw [c29b0] | (simp only [i64_w, i32_w]; rw [c29b0]) | skip)
      by_cases c30 : t738 > 16
      ·rw [if_pos c30] at H
       have c30b0 : decide (16 < t738) = true := decide_eq_true c30
       clear c30
       as_aux_lemma =>
        have H' := Aside0.mk H
        clear H
        go_wp2
        go_meet
        case rel => exact ⟨_, (true), (by first | rfl | (simp; done) | (simp [*]; done)), H', ⟨by have := HJ5.out; first | omega | exact Nat.le_refl _⟩, ⟨by exact zf BK732 NB732_739⟩, ⟨by exact zp BK739 rfl⟩, ⟨by exact zbo HB GE739⟩⟩
      ·rw [if_neg c30] at H
       have c30b0 : decide (16 < t738) = false := decide_eq_false c30
       clear c30
       by_cases c31 : t736 > (wrap64 (t738 * 65536))
       ·rw [if_pos c31] at H
        have c31b0 : decide ((wrap64 (t738 * 65536)) < t736) = true := decide_eq_true c31
        clear c31
        as_aux_lemma =>
         have H' := Aside0.mk H
         clear H
         obtain ⟨hcz32_0, hcz32_1, hfz32_0, hfz32_1⟩ := zq2 BK739
         go_wp2
         go_meet
         case rel => exact ⟨_, (true), (by first | rfl | (simp; done) | (simp [*]; done)), H', ⟨by have := HJ5.out; first | omega | exact Nat.le_refl _⟩, ⟨by exact zf BK732 NB732_739⟩, ⟨by exact zp BK739 rfl⟩, ⟨by exact zbo HB GE739⟩⟩
       ·rw [if_neg c31] at H
        have c31b0 : decide ((wrap64 (t738 * 65536)) < t736) = false := decide_eq_false c31
        clear c31
        by_cases c33 : t736 < (wrap64 ((wrap64 (-t738)) * 65536))
        ·rw [if_pos c33] at H
         have c33b0 : decide (t736 < (wrap64 ((wrap64 (-t738)) * 65536))) = true := decide_eq_true c33
         clear c33
         as_aux_lemma =>
          have H' := Aside0.mk H
          clear H
          obtain ⟨hcz34_0, hcz34_1, hfz34_0, hfz34_1⟩ := zq2 BK739
          go_wp2
          go_meet
          case rel => exact ⟨_, (true), (by first | rfl | (simp; done) | (simp [*]; done)), H', ⟨by have := HJ5.out; first | omega | exact Nat.le_refl _⟩, ⟨by exact zf BK732 NB732_739⟩, ⟨by exact zp BK739 rfl⟩, ⟨by exact zbo HB GE739⟩⟩
        ·rw [if_neg c33] at H
         have c33b0 : decide (t736 < (wrap64 ((wrap64 (-t738)) * 65536))) = false := decide_eq_false c33
         clear c33
         by_cases c35 : t737 > (wrap64 (t738 * 65536))
         ·rw [if_pos c35] at H
          have c35b0 : decide ((wrap64 (t738 * 65536)) < t737) = true := decide_eq_true c35
          clear c35
          as_aux_lemma =>
           have H' := Aside0.mk H
           clear H
           obtain ⟨hcz36_0, hcz36_1, hfz36_0, hfz36_1⟩ := zq2 BK739
           go_wp2
           go_meet
           case rel => exact ⟨_, (true), (by first | rfl | (simp; done) | (simp [*]; done)), H', ⟨by have := HJ5.out; first | omega | exact Nat.le_refl _⟩, ⟨by exact zf BK732 NB732_739⟩, ⟨by exact zp BK739 rfl⟩, ⟨by exact zbo HB GE739⟩⟩
         ·rw [if_neg c35] at H
          have c35b0 : decide ((wrap64 (t738 * 65536)) < t737) = false := decide_eq_false c35
          clear c35
          as_aux_lemma =>
           have H' := Aside0.mk H
           clear H
           obtain ⟨hcz37_0, hcz37_1, hfz37_0, hfz37_1⟩ := zq2 BK739
           go_wp2
           go_meet
           case rel => exact ⟨_, (decide (t737 < (wrap64 ((wrap64 (-t738)) * 65536)))), (by first | rfl | (simp; done) | (simp [*]; done)), H', ⟨by have := HJ5.out; first | omega | exact Nat.le_refl _⟩, ⟨by exact zf BK732 NB732_739⟩, ⟨by exact zp BK739 rfl⟩, ⟨by exact zbo HB GE739⟩⟩
    case rest =>
     clear HC21
     try clear c1
     try clear c2
     try clear p2
     try clear q2
     try clear c3
     try clear q4
     try clear c6
     try clear p6
     try clear c9
     try clear c9b0
     try clear c9b1
     try clear c11
     try clear c12
     try clear c14
     try clear c16
     try clear c29
     try clear c29b0
     try clear c30
     try clear c30b0
     try clear c31
     try clear c31b0
     try clear c33
     try clear c33b0
     try clear c35
     try clear c35b0
     try clear hcz11_0
     try clear hcz11_1
     try clear hcz11_2
     try clear hcz11_3
     try clear hcz14_0
     try clear hcz14_1
     try clear hcz14_2
     try clear hcz14_3
     try clear hcz32_0
     try clear hcz32_1
     try clear hcz34_0
     try clear hcz34_1
     try clear hcz36_0
     try clear hcz36_1
     try clear hcz37_0
     try clear hcz37_1
     try clear hfz11_0
     try clear hfz11_1
     try clear hfz11_2
     try clear hfz11_3
     try clear hfz14_0
     try clear hfz14_1
     try clear hfz14_2
     try clear hfz14_3
     try clear hfz32_0
     try clear hfz32_1
     try clear hfz34_0
     try clear hfz34_1
     try clear hfz36_0
     try clear hfz36_1
     try clear hfz37_0
     try clear hfz37_1
     try clear p2
     try clear q4
     obtain ⟨kq, x62_20, rfl, HA, HJ20, BK732, BK739, HB⟩ := hcut
     cases kq with
     | zero => exact absurd HA.out (by simp [imageeditorlaw15_WarpPoints.j1])
     | succ kj20 =>
      have H := HA.out
      clear HA
      simp only [imageeditorlaw15_WarpPoints.j1] at H
      by_cases c38 : x62_20 = true
      ·subst c38
       have H1 : (some false) = some r := by rw [if_pos rfl] at H; exact H
       clear H
       have H := H1
       clear H1
       as_aux_lemma =>
        exact absurd HT.out (by rw [← Option.some.inj H]; decide)
      ·replace c38 := Bool.eq_false_iff.mpr c38
       subst c38
       have H1 : (if a1 < 0 then (some true) else (if a1 ≥ a0_0 then (some true) else (if a2 < 0 then (some true) else (if a2 ≥ a0_1 then (some true) else ((warp_At.f kj20 a0_0 a0_1 a0_2 l0_3 (wrap64 (a1 * a0_2)) (wrap64 (a2 * a0_2))).bind fun bt740 => (if 0 ≤ (wrap64 ((wrap64 (a2 * a0_0)) + a1)) then (if (wrap64 ((wrap64 (a2 * a0_0)) + a1)) < (l0_3.length : Int) then (some (bt740.1 == ((rd_T28 l0_3 (wrap64 ((wrap64 (a2 * a0_0)) + a1))).f0) && (bt740.2 == ((rd_T28 l0_3 (wrap64 ((wrap64 (a2 * a0_0)) + a1))).f1)))) else (none)) else (none))))))) = some r := by rw [if_neg (show ¬ (false = true) by decide)] at H; exact H
       clear H
       have H := H1
       clear H1
       by_cases c39 : a1 < 0
       ·rw [if_pos c39] at H
        have c39b0 : decide (a1 < 0) = true := decide_eq_true c39
        clear c39
        as_aux_lemma =>
         obtain rfl := Option.some.inj H
         go_wp2
         go_ret
         exact ⟨by first | rfl | (simp [errW_none, errW_some] <;> rfl) | (simp [*, errW_none, errW_some] <;> rfl), by exact zb0 HB⟩
       ·rw [if_neg c39] at H
        have c39b0 : decide (a1 < 0) = false := decide_eq_false c39
        clear c39
        by_cases c40 : a1 ≥ a0_0
        ·rw [if_pos c40] at H
         have c40b0 : decide (a0_0 ≤ a1) = true := decide_eq_true c40
         clear c40
         as_aux_lemma =>
          obtain rfl := Option.some.inj H
          obtain ⟨hcz41_0, hcz41_1, hcz41_2, hcz41_3, hfz41_0, hfz41_1, hfz41_2, hfz41_3⟩ := zq4 BK732
          go_wp2
          go_ret
          exact ⟨by first | rfl | (simp [errW_none, errW_some] <;> rfl) | (simp [*, errW_none, errW_some] <;> rfl), by exact zb0 HB⟩
        ·rw [if_neg c40] at H
         have c40b0 : decide (a0_0 ≤ a1) = false := decide_eq_false c40
         clear c40
         by_cases c42 : a2 < 0
         ·rw [if_pos c42] at H
          have c42b0 : decide (a2 < 0) = true := decide_eq_true c42
          clear c42
          as_aux_lemma =>
           obtain rfl := Option.some.inj H
           obtain ⟨hcz43_0, hcz43_1, hcz43_2, hcz43_3, hfz43_0, hfz43_1, hfz43_2, hfz43_3⟩ := zq4 BK732
           go_wp2
           go_ret
           exact ⟨by first | rfl | (simp [errW_none, errW_some] <;> rfl) | (simp [*, errW_none, errW_some] <;> rfl), by exact zb0 HB⟩
         ·rw [if_neg c42] at H
          have c42b0 : decide (a2 < 0) = false := decide_eq_false c42
          clear c42
          by_cases c44 : a2 ≥ a0_1
          ·rw [if_pos c44] at H
           have c44b0 : decide (a0_1 ≤ a2) = true := decide_eq_true c44
           clear c44
           as_aux_lemma =>
            obtain rfl := Option.some.inj H
            obtain ⟨hcz45_0, hcz45_1, hcz45_2, hcz45_3, hfz45_0, hfz45_1, hfz45_2, hfz45_3⟩ := zq4 BK732
            go_wp2
            go_ret
            exact ⟨by first | rfl | (simp [errW_none, errW_some] <;> rfl) | (simp [*, errW_none, errW_some] <;> rfl), by exact zb0 HB⟩
          ·rw [if_neg c44] at H
           have c44b0 : decide (a0_1 ≤ a2) = false := decide_eq_false c44
           clear c44
           replace H := Option.bind_eq_some_iff.mp H
           obtain ⟨⟨t740, t741⟩, A460, H⟩ := H
           replace H : (if 0 ≤ (wrap64 ((wrap64 (a2 * a0_0)) + a1)) then (if (wrap64 ((wrap64 (a2 * a0_0)) + a1)) < (l0_3.length : Int) then (some (t740 == ((rd_T28 l0_3 (wrap64 ((wrap64 (a2 * a0_0)) + a1))).f0) && (t741 == ((rd_T28 l0_3 (wrap64 ((wrap64 (a2 * a0_0)) + a1))).f1)))) else (none)) else (none)) = some r := H
           have A46 := Aside0.mk A460
           clear A460
           obtain ⟨ji47, hji47⟩ : ∃ j_ : Int, (wrap64 ((wrap64 (a2 * a0_0)) + a1)) = j_ := ⟨_, rfl⟩
           replace H : (if 0 ≤ (ji47) then (if (ji47) < (l0_3.length : Int) then (some (t740 == ((rd_T28 l0_3 (ji47)).f0) && (t741 == ((rd_T28 l0_3 (ji47)).f1)))) else (none)) else (none)) = some r := by first | (rw [hji47] at H; exact H) | (simp only [hji47] at H ⊢; exact H)
           (try rw [hji47] at A46)
           have hji47w : (IntKind.i64.wrap ((wrap64 (a2 * a0_0)) + a1)) = ji47 := (i64_w _).trans hji47
           by_cases c48 : 0 ≤ (ji47)
           ·rw [if_pos c48] at H
            have c48b0 : decide (0 ≤ (ji47)) = true := decide_eq_true c48
            clear c48
            by_cases c49 : (ji47) < (l0_3.length : Int)
            ·rw [if_pos c49] at H
             have c49b0 : decide ((ji47) < (l0_3.length : Int)) = true := decide_eq_true c49
             clear c49
             as_aux_lemma =>
              obtain rfl := Option.some.inj H
              obtain ⟨hcz50_0, hcz50_1, hcz50_2, hcz50_3, hfz50_0, hfz50_1, hfz50_2, hfz50_3⟩ := zq4 BK732
              (try clear BK739)
              try go_wp2
              replace BK732 := zkd BK732
              replace HB := zbd HB
              have p742 : 0 ≤ ((ji47) : Int) := of_decide_eq_true (by first | (with_reducible assumption) | assumption)
              have q742 : (ji47) < (l0_3.length : Int) := of_decide_eq_true (by first | (with_reducible assumption) | assumption)
              obtain ⟨ad742, e742, hx742_0, hx742_1⟩ := at_T28 HR0_3.out (ji47) p742 q742
              have hw742_1 := hx742_1
              have hw742_0 := hx742_0
              cases e742
              replace hx742_0 := (HB.out.cell (World.block_lt_of_cell? w _ hx742_0)).trans hx742_0
              replace hx742_1 := (HB.out.cell (World.block_lt_of_cell? w _ hx742_1)).trans hx742_1
              replace p742 := eq_true p742
              replace q742 := eq_true q742
              refine start_ (n := 22) (S := fun w' => w'.cell? ⟨gb732, 0, none⟩ = some (.int .i64 a0_0) ∧ w'.cell? ⟨gb732, 1, none⟩ = some (.int .i64 a0_1) ∧ w'.cell? ⟨gb732, 2, none⟩ = some (.int .i64 a0_2) ∧ w'.cell? ⟨gb732, 3, none⟩ = some (.slice (some ad742) l0_3.length c0_3) ∧ w'.cell? (ad742.add (((ji47)).toNat * 2)) = some (.int .i64 ((rd_T28 l0_3 (ji47)).f0)) ∧ w'.cell? ⟨(ad742.add (((ji47)).toNat * 2)).block, (ad742.add (((ji47)).toNat * 2)).off + 1, none⟩ = some (.int .i64 ((rd_T28 l0_3 (ji47)).f1))) (ds := []) (bs 22 0) (by kernel_rfl) rfl rfl ⟨(blk_cell BK732.out 0).trans rfl, (blk_cell BK732.out 1).trans rfl, (blk_cell BK732.out 2).trans rfl, (blk_cell BK732.out 3).trans rfl, ((HB.out.cell (World.block_lt_of_cell? w _ hw742_0)).trans hw742_0), ((HB.out.cell (World.block_lt_of_cell? w _ hw742_1)).trans hw742_1)⟩ (fun hHeld => ?_); refine with_tabW imageeditorlaw15_WarpPoints.tab8 imageeditorlaw15_WarpPoints.bits8 (fun HT_ HW_ => ?_)
              generalize wc.drew = w51 at BK732 HB hx742_0 hx742_1 hHeld ⊢
              refine pure_ (i := 1) (N := some 82) (v := ?_) (a' := ?_) (bs 22 2) rfl rfl (any_of HT_.out (by kernel_rfl)) (fun _ _ _ h => h) (Or.inl ⟨by rfl, ?_⟩) ?_ ?_
              rotate_left
              ·intro w'
               go_simp
               with_reducible rfl
              rotate_left
              ·simp only [Act.put, sA, sB, sC, i64_w, i32_w]
               rfl
              refine pure_ (i := 2) (N := some 83) (v := ?_) (a' := ?_) (bs 22 6) rfl rfl (any_of HT_.out (by kernel_rfl)) (fun _ _ _ h => h) (Or.inl ⟨by rfl, ?_⟩) ?_ ?_
              rotate_left
              ·intro w'
               go_simp
               with_reducible rfl
              rotate_left
              ·simp only [Act.put, sA, sB, sC, i64_w, i32_w]
               rfl
              refine pure_ (i := 5) (N := some 86) (v := ?_) (a' := ?_) (bs 22 38) rfl rfl (any_of HT_.out (by kernel_rfl)) (fun _ _ _ h => h) (Or.inl ⟨by rfl, ?_⟩) ?_ ?_
              rotate_left
              ·intro w'
               go_simp
               with_reducible rfl
              rotate_left
              ·simp only [Act.put, sA, sB, sC, i64_w, i32_w]
               rfl
              refine pure_ (i := 6) (N := some 87) (v := ?_) (a' := ?_) (bs 22 102) rfl rfl (any_of HT_.out (by kernel_rfl)) (fun _ _ _ h => h) (Or.inl ⟨by rfl, ?_⟩) ?_ ?_
              rotate_left
              ·intro w'
               go_simp
               with_reducible rfl
              rotate_left
              ·simp only [Act.put, sA, sB, sC, i64_w, i32_w]
               rfl
              refine pure_ (i := 10) (N := some 91) (v := ?_) (a' := ?_) (bs 22 1126) rfl rfl (any_of HT_.out (by kernel_rfl)) (fun _ _ _ h => h) (Or.inl ⟨by rfl, ?_⟩) ?_ ?_
              rotate_left
              ·intro w'
               go_simp
               with_reducible rfl
              rotate_left
              ·simp only [Act.put, sA, sB, sC, i64_w, i32_w]
               rfl
              refine pure_ (i := 12) (N := some 93) (v := ?_) (a' := ?_) (bs 22 5222) rfl rfl (any_of HT_.out (by kernel_rfl)) (fun _ _ _ h => h) (Or.inl ⟨by rfl, ?_⟩) ?_ ?_
              rotate_left
              ·intro w'
               go_simp
               with_reducible rfl
              rotate_left
              ·simp only [Act.put, sA, sB, sC, i64_w, i32_w]
               rfl
              refine pure_ (i := 13) (N := some 94) (v := ?_) (a' := ?_) (bs 22 13414) rfl rfl (any_of HT_.out (by kernel_rfl)) (fun _ _ _ h => h) (Or.inl ⟨by rfl, ?_⟩) ?_ ?_
              rotate_left
              ·intro w'
               go_simp
               with_reducible rfl
              rotate_left
              ·simp only [Act.put, sA, sB, sC, i64_w, i32_w]
               rfl
              refine pure_ (i := 16) (N := some 97) (v := ?_) (a' := ?_) (bs 22 78950) rfl rfl (any_of HT_.out (by kernel_rfl)) (fun _ _ _ h => h) (Or.inl ⟨by rfl, ?_⟩) ?_ ?_
              rotate_left
              ·intro w'
               go_simp
               with_reducible rfl
              rotate_left
              ·simp only [Act.put, sA, sB, sC, i64_w, i32_w]
               rfl
              refine take_ (i := 0) (N := some 81) (v := ?_) (a' := ?_) (bs 22 78951) rfl rfl (take_ofW HT_.out HW_.out (by kernel_rfl)) (fun _ _ _ h => h) (Or.inl ⟨by rfl, ?_⟩) hHeld ?_ ?_
              rotate_left
              ·rintro w' ⟨s0, s1, s2, s3, s4, s5⟩
               go_simp
               with_reducible rfl
              rotate_left
              ·simp only [Act.put, sA, sB, sC, i64_w, i32_w]
               rfl
              refine take_ (i := 3) (N := some 84) (v := ?_) (a' := ?_) (bs 22 78959) rfl rfl (take_ofW HT_.out HW_.out (by kernel_rfl)) (fun _ _ _ h => h) (Or.inl ⟨by rfl, ?_⟩) hHeld ?_ ?_
              rotate_left
              ·rintro w' ⟨s0, s1, s2, s3, s4, s5⟩
               go_simp
               with_reducible rfl
              rotate_left
              ·simp only [Act.put, sA, sB, sC, i64_w, i32_w]
               rfl
              refine pure_ (i := 4) (N := some 85) (v := ?_) (a' := ?_) (bs 22 78975) rfl rfl (any_of HT_.out (by kernel_rfl)) (fun _ _ _ h => h) (Or.inl ⟨by rfl, ?_⟩) ?_ ?_
              rotate_left
              ·intro w'
               go_simp
               with_reducible rfl
              rotate_left
              ·simp only [Act.put, sA, sB, sC, i64_w, i32_w]
               rfl
              refine take_ (i := 7) (N := some 88) (v := ?_) (a' := ?_) (bs 22 79103) rfl rfl (take_ofW HT_.out HW_.out (by kernel_rfl)) (fun _ _ _ h => h) (Or.inl ⟨by rfl, ?_⟩) hHeld ?_ ?_
              rotate_left
              ·rintro w' ⟨s0, s1, s2, s3, s4, s5⟩
               go_simp
               with_reducible rfl
              rotate_left
              ·simp only [Act.put, sA, sB, sC, i64_w, i32_w]
               rfl
              refine pure_ (i := 8) (N := some 89) (v := ?_) (a' := ?_) (bs 22 79359) rfl rfl (any_of HT_.out (by kernel_rfl)) (fun _ _ _ h => h) (Or.inl ⟨by rfl, ?_⟩) ?_ ?_
              rotate_left
              ·intro w'
               go_simp
               with_reducible rfl
              rotate_left
              ·simp only [Act.put, sA, sB, sC, i64_w, i32_w]
               rfl
              refine take_ (i := 11) (N := some 92) (v := ?_) (a' := ?_) (bs 22 81407) rfl rfl (take_ofW HT_.out HW_.out (by kernel_rfl)) (fun _ _ _ h => h) (Or.inl ⟨by rfl, ?_⟩) hHeld ?_ ?_
              rotate_left
              ·rintro w' ⟨s0, s1, s2, s3, s4, s5⟩
               go_simp
               with_reducible rfl
              rotate_left
              ·simp only [Act.put, sA, sB, sC, i64_w, i32_w]
               rfl
              refine take_ (i := 14) (N := some 95) (v := ?_) (a' := ?_) (bs 22 97791) rfl rfl (take_ofW HT_.out HW_.out (by kernel_rfl)) (fun _ _ _ h => h) (Or.inl ⟨by rfl, ?_⟩) hHeld ?_ ?_
              rotate_left
              ·rintro w' ⟨s0, s1, s2, s3, s4, s5⟩
               go_simp
               with_reducible rfl
              rotate_left
              ·simp only [Act.put, sA, sB, sC, i64_w, i32_w]
               rfl
              refine pure_ (i := 15) (N := some 96) (v := ?_) (a' := ?_) (bs 22 130559) rfl rfl (any_of HT_.out (by kernel_rfl)) (fun _ _ _ h => h) (Or.inl ⟨by rfl, ?_⟩) ?_ ?_
              rotate_left
              ·intro w'
               go_simp
               with_reducible rfl
              rotate_left
              ·simp only [Act.put, sA, sB, sC, i64_w, i32_w]
               rfl
              refine pure_ (i := 17) (N := some 98) (v := ?_) (a' := ?_) (bs 22 261631) rfl rfl (any_of HT_.out (by kernel_rfl)) (fun _ _ _ h => h) (Or.inl ⟨by rfl, ?_⟩) ?_ ?_
              rotate_left
              ·intro w'
               go_simp
               with_reducible rfl
              rotate_left
              ·simp only [Act.put, sA, sB, sC, i64_w, i32_w]
               rfl
              refine pure_ (i := 18) (N := some 99) (v := ?_) (a' := ?_) (bs 22 523775) rfl rfl (any_of HT_.out (by kernel_rfl)) (fun _ _ _ h => h) (Or.inl ⟨by rfl, ?_⟩) ?_ ?_
              rotate_left
              ·intro w'
               go_simp
               with_reducible rfl
              rotate_left
              ·simp only [Act.put, sA, sB, sC, i64_w, i32_w]
               rfl
              refine take_ (i := 19) (N := some 100) (v := ?_) (a' := ?_) (bs 22 1048063) rfl rfl (take_ofW HT_.out HW_.out (by kernel_rfl)) (fun _ _ _ h => h) (Or.inl ⟨by rfl, ?_⟩) hHeld ?_ ?_
              rotate_left
              ·rintro w' ⟨s0, s1, s2, s3, s4, s5⟩
               go_simp
               with_reducible rfl
              rotate_left
              ·simp only [Act.put, sA, sB, sC, i64_w, i32_w]
               rfl
              refine one_ (i := 9) (N := some 90) (bs 22 1048575) rfl rfl (one_of HT_.out (by kernel_rfl)) (by decide) (fun K hK => ?_)
              refine goes_ Try.func12 (by kernel_rfl) rfl #[.agg #[.int .i64 a0_0, .int .i64 a0_1, .int .i64 a0_2, .slice (some ad742) l0_3.length c0_3], .int .i64 (wrap64 (a1 * a0_2)), .int .i64 (wrap64 (a2 * a0_2))] (by rfl) rfl rfl (by (try simp only [List.map_toArray, List.map_cons, List.map_nil]); first | done | rfl | (simp only [List.length_drop, List.length_take]; rfl)) ?_
              with_reducible refine (warp_At.calls kj20 a0_0 a0_1 a0_2 _ _ l0_3 (wrap64 (a1 * a0_2)) (wrap64 (a2 * a0_2)) t740 t741 _ ?side1 ?side2 A46.out).mono ?_
              (case side1 => repeat (first | exact (Kd.C_below HR0_3.out HB.out) | (with_reducible refine Kd.C_alloc ?_ _) | (with_reducible refine Kd.C_drewN ?_ _) | (with_reducible refine Kd.C_drew ?_)))
              (case side2 => exact HC0_3.out)
              rintro e w52 ⟨rfl, hb⟩
              refine ⟨_, rfl, ?_⟩
              replace BK732 := zk BK732 hb
              replace HB := zb HB hb
              (try clear hb)
              (try clear hb2)
              (try clear hk)
              (try clear hi)
              refine hK.out _ _ ⟨(blk_cell BK732.out 0).trans rfl, (blk_cell BK732.out 1).trans rfl, (blk_cell BK732.out 2).trans rfl, (blk_cell BK732.out 3).trans rfl, ((HB.out.cell (World.block_lt_of_cell? w _ hw742_0)).trans hw742_0), ((HB.out.cell (World.block_lt_of_cell? w _ hw742_1)).trans hw742_1)⟩ (fun hHeld => ?_)
              clear hK K
              refine norm_ (a' := ?_) ?_ ?_
              rotate_left
              ·show Act.put _ (some 90) _ = _
               simp only [Act.put, sA, sB, sC, i64_w, i32_w]
               rfl
              refine pure_ (i := 20) (N := some 101) (v := ?_) (a' := ?_) (bs 22 2097151) rfl rfl (any_of HT_.out (by kernel_rfl)) (fun _ _ _ h => h) (Or.inl ⟨by rfl, ?_⟩) ?_ ?_
              rotate_left
              ·intro w'
               go_simp
               with_reducible rfl
              rotate_left
              ·simp only [Act.put, sA, sB, sC, i64_w, i32_w]
               rfl
              refine pure_ (i := 21) (N := some 10) (v := ?_) (a' := ?_) (bs 22 4194303) rfl rfl (any_of HT_.out (by kernel_rfl)) (fun _ _ _ h => h) (Or.inl ⟨by rfl, ?_⟩) ?_ ?_
              rotate_left
              ·intro w'
               go_simp
               with_reducible rfl
              rotate_left
              ·simp only [Act.put, sA, sB, sC, i64_w, i32_w]
               rfl
              refine done_ (done_of HT_.out (by kernel_rfl)) ?_
              try go_wp2
              go_ret
              exact ⟨by first | rfl | (simp [errW_none, errW_some] <;> rfl) | (simp only [← hji47]; first | rfl | (simp [errW_none, errW_some] <;> rfl)) | (simp [*, errW_none, errW_some] <;> rfl), by exact zb0 HB⟩
            ·rw [if_neg c49] at H
             exact absurd H (by simp)
           ·rw [if_neg c48] at H
            exact absurd H (by simp)

end Go.Proofs.Ytnfbabmceddciaa.G
