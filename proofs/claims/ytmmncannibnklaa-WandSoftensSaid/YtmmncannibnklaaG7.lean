/- Contracts of functions of the program, each as it is called: what it computes (.f), that it computes no less with more rounds (.mono), and that a call returns just that (.calls). No conditions but those that each contract names. Written by a program of this session (wip/gx.py over the kit's print). -/
import Derived.Test.YtmmncannibnklaaG0
import Derived.Test.YtmmncannibnklaaG3
import Derived.Test.YtmmncannibnklaaG4
import Derived.Test.YtmmncannibnklaaG5
import Derived.Test.YtmmncannibnklaaG6
import Derived.Test.YtmmncannibnklaaG8
import Derived.Test.YtmmncannibnklaaG11
namespace Go.Proofs.Ytmmncannibnklaa.G
open Go.RowKit Go.Proofs.YtmmncannibnklaaW.PrintWords Go.Proofs.YtmmncannibnklaaW.PrintLast Go.Proofs.YtmmncannibnklaaW.PrintMore
attribute [local go_sem] max2_int min2_int max_two min_two max_three min_three max_four min_four   -- for this text's walks alone
set_option linter.unusedVariables false
set_option linter.unusedSimpArgs false


/-! ### imageeditorref24_Flood: function 10 -/
mutual
def imageeditorref24_Flood.j0 : Nat → Int → Bool → Bool → Int → Int → List (S37) → Int → Int → Option (Int × Int × List Int × Int)
 | 0, _, _, _, _, _, _, _, _ => none
 | k + 1, x2, x3, x50, x240000, x240001, x240002, x241000, x241001 => if x50 = true then (some (0, 0, ([] : List Int), 2)) else (imageeditorref24_Flood.l0 k x2 x3 (wrap64 ((wrap64 (x241001 * x240000)) + x241000)) ([] : List Bool) (x240002.length : Int) 0 x240000 x240001 x240002)
def imageeditorref24_Flood.l0 : Nat → Int → Bool → Int → List Bool → Int → Int → Int → Int → List (S37) → Option (Int × Int × List Int × Int)
 | 0, _, _, _, _, _, _, _, _, _ => none
 | k + 1, x2, x3, x11, x12, x62, x63, x240000, x240001, x240002 => if x63 < x62 then (if 0 ≤ x63 then (if x63 < (x240002.length : Int) then (if 0 ≤ x11 then (if x11 < (x240002.length : Int) then ((imageeditorref06_Dist.f k ((rd_T37 x240002 x63).f0) ((rd_T37 x240002 x63).f1) ((rd_T37 x240002 x63).f2) ((rd_T37 x240002 x63).f3) ((rd_T37 x240002 x11).f0) ((rd_T37 x240002 x11).f1) ((rd_T37 x240002 x11).f2) ((rd_T37 x240002 x11).f3)).bind fun t246 => (if x12.length < 140737488355328 then (imageeditorref24_Flood.l0 k x2 x3 x11 (x12 ++ [decide (t246 ≤ x2)]) x62 (wrap64 (x63 + 1)) x240000 x240001 x240002) else (none))) else (none)) else (none)) else (none)) else (none)) else ((imageeditorref24_reached.f k x240000 x240001 x11 x12 x3).bind fun t250 => (imageeditorref24_Flood.l1 k t250 (t250.length : Int) 0 x240000 x240001 ([] : List Int)))
def imageeditorref24_Flood.l1 : Nat → List Bool → Int → Int → Int → Int → List Int → Option (Int × Int × List Int × Int)
 | 0, _, _, _, _, _, _ => none
 | k + 1, x14, x97, x98, x254000, x254001, x254002 => if x98 < x97 then (if 0 ≤ x98 then (if x98 < (x14.length : Int) then (if rdOf false x14 x98 = true then (if x254002.length < 17592186044416 then (imageeditorref24_Flood.l1 k x14 x97 (wrap64 (x98 + 1)) x254000 x254001 (x254002 ++ [65535])) else (none)) else (if x254002.length < 17592186044416 then (imageeditorref24_Flood.l1 k x14 x97 (wrap64 (x98 + 1)) x254000 x254001 (x254002 ++ [0])) else (none))) else (none)) else (none)) else (some (x254000, x254001, x254002, 0))
end
def imageeditorref24_Flood.f (k : Nat) (a0_0 : Int) (a0_1 : Int) (l0_2 : List (S37)) (a1_0 : Int) (a1_1 : Int) (a2 : Int) (a3 : Bool) : Option (Int × Int × List Int × Int) := (imageeditorref11_Check.f k a0_0 a0_1 l0_2).bind fun t242 => (if t242 = 0 then (if a1_0 < 0 then (imageeditorref24_Flood.j0 k a2 a3 true a0_0 a0_1 l0_2 a1_0 a1_1) else (if a1_0 ≥ a0_0 then (imageeditorref24_Flood.j0 k a2 a3 true a0_0 a0_1 l0_2 a1_0 a1_1) else (if a1_1 < 0 then (imageeditorref24_Flood.j0 k a2 a3 true a0_0 a0_1 l0_2 a1_0 a1_1) else (if a1_1 ≥ a0_1 then (imageeditorref24_Flood.j0 k a2 a3 true a0_0 a0_1 l0_2 a1_0 a1_1) else ((imageeditorref24_unit.f a2).bind fun t243 => (imageeditorref24_Flood.j0 k a2 a3 (!t243) a0_0 a0_1 l0_2 a1_0 a1_1)))))) else (some (0, 0, ([] : List Int), t242)))
theorem imageeditorref24_Flood.mono_l : ∀ k, (∀ y0 y1 y2 y3 y4 y5 y6 y7, LeO (imageeditorref24_Flood.j0 k y0 y1 y2 y3 y4 y5 y6 y7) (imageeditorref24_Flood.j0 (k + 1) y0 y1 y2 y3 y4 y5 y6 y7)) ∧ (∀ y0 y1 y2 y3 y4 y5 y6 y7 y8, LeO (imageeditorref24_Flood.l0 k y0 y1 y2 y3 y4 y5 y6 y7 y8) (imageeditorref24_Flood.l0 (k + 1) y0 y1 y2 y3 y4 y5 y6 y7 y8)) ∧ (∀ y0 y1 y2 y3 y4 y5, LeO (imageeditorref24_Flood.l1 k y0 y1 y2 y3 y4 y5) (imageeditorref24_Flood.l1 (k + 1) y0 y1 y2 y3 y4 y5))
 | 0 => ⟨fun _ _ _ _ _ _ _ _ r h => by simp [imageeditorref24_Flood.j0] at h, fun _ _ _ _ _ _ _ _ _ r h => by simp [imageeditorref24_Flood.l0] at h, fun _ _ _ _ _ _ r h => by simp [imageeditorref24_Flood.l1] at h⟩
 | k + 1 => by
  obtain ⟨ih0, ih1, ih2⟩ := imageeditorref24_Flood.mono_l k
  refine ⟨?_, ?_, ?_⟩
  ·intro y0 y1 y2 y3 y4 y5 y6 y7
   unfold imageeditorref24_Flood.j0
   repeat' first
   | (with_reducible exact ih0 _ _ _ _ _ _ _ _)
   | (with_reducible exact ih1 _ _ _ _ _ _ _ _ _)
   | (with_reducible exact ih2 _ _ _ _ _ _)
   | (with_reducible exact imageeditorref06_Dist.mono _ _ _ _ _ _ _ _ _)
   | (with_reducible exact imageeditorref11_Check.mono _ _ _ _)
   | (with_reducible exact imageeditorref24_reached.mono _ _ _ _ _ _)
   | (with_reducible exact LeO.refl _)
   | (with_reducible exact LeO.none _)
   | (with_reducible refine LeO.ite ?_ ?_)
   | (with_reducible refine LeO.bind ?_ (fun _ => ?_))
   | exact ih0 _ _ _ _ _ _ _ _
   | exact ih1 _ _ _ _ _ _ _ _ _
   | exact ih2 _ _ _ _ _ _
   | exact imageeditorref06_Dist.mono _ _ _ _ _ _ _ _ _
   | exact imageeditorref11_Check.mono _ _ _ _
   | exact imageeditorref24_reached.mono _ _ _ _ _ _
   | exact LeO.none _
   | refine LeO.ite ?_ ?_
   | refine LeO.bind ?_ (fun _ => ?_)
  ·intro y0 y1 y2 y3 y4 y5 y6 y7 y8
   unfold imageeditorref24_Flood.l0
   repeat' first
   | (with_reducible exact ih0 _ _ _ _ _ _ _ _)
   | (with_reducible exact ih1 _ _ _ _ _ _ _ _ _)
   | (with_reducible exact ih2 _ _ _ _ _ _)
   | (with_reducible exact imageeditorref06_Dist.mono _ _ _ _ _ _ _ _ _)
   | (with_reducible exact imageeditorref11_Check.mono _ _ _ _)
   | (with_reducible exact imageeditorref24_reached.mono _ _ _ _ _ _)
   | (with_reducible exact LeO.refl _)
   | (with_reducible exact LeO.none _)
   | (with_reducible refine LeO.ite ?_ ?_)
   | (with_reducible refine LeO.bind ?_ (fun _ => ?_))
   | exact ih0 _ _ _ _ _ _ _ _
   | exact ih1 _ _ _ _ _ _ _ _ _
   | exact ih2 _ _ _ _ _ _
   | exact imageeditorref06_Dist.mono _ _ _ _ _ _ _ _ _
   | exact imageeditorref11_Check.mono _ _ _ _
   | exact imageeditorref24_reached.mono _ _ _ _ _ _
   | exact LeO.none _
   | refine LeO.ite ?_ ?_
   | refine LeO.bind ?_ (fun _ => ?_)
  ·intro y0 y1 y2 y3 y4 y5
   unfold imageeditorref24_Flood.l1
   repeat' first
   | (with_reducible exact ih0 _ _ _ _ _ _ _ _)
   | (with_reducible exact ih1 _ _ _ _ _ _ _ _ _)
   | (with_reducible exact ih2 _ _ _ _ _ _)
   | (with_reducible exact imageeditorref06_Dist.mono _ _ _ _ _ _ _ _ _)
   | (with_reducible exact imageeditorref11_Check.mono _ _ _ _)
   | (with_reducible exact imageeditorref24_reached.mono _ _ _ _ _ _)
   | (with_reducible exact LeO.refl _)
   | (with_reducible exact LeO.none _)
   | (with_reducible refine LeO.ite ?_ ?_)
   | (with_reducible refine LeO.bind ?_ (fun _ => ?_))
   | exact ih0 _ _ _ _ _ _ _ _
   | exact ih1 _ _ _ _ _ _ _ _ _
   | exact ih2 _ _ _ _ _ _
   | exact imageeditorref06_Dist.mono _ _ _ _ _ _ _ _ _
   | exact imageeditorref11_Check.mono _ _ _ _
   | exact imageeditorref24_reached.mono _ _ _ _ _ _
   | exact LeO.none _
   | refine LeO.ite ?_ ?_
   | refine LeO.bind ?_ (fun _ => ?_)
theorem imageeditorref24_Flood.mono : ∀ a0 a1 a2 a3 a4 a5 a6 k, LeO (imageeditorref24_Flood.f k a0 a1 a2 a3 a4 a5 a6) (imageeditorref24_Flood.f (k + 1) a0 a1 a2 a3 a4 a5 a6) := by
 intro a0 a1 a2 a3 a4 a5 a6 k
 obtain ⟨ih0, ih1, ih2⟩ := imageeditorref24_Flood.mono_l k
 unfold imageeditorref24_Flood.f
 repeat' first
   | (with_reducible exact ih0 _ _ _ _ _ _ _ _)
   | (with_reducible exact ih1 _ _ _ _ _ _ _ _ _)
   | (with_reducible exact ih2 _ _ _ _ _ _)
   | (with_reducible exact imageeditorref06_Dist.mono _ _ _ _ _ _ _ _ _)
   | (with_reducible exact imageeditorref11_Check.mono _ _ _ _)
   | (with_reducible exact imageeditorref24_reached.mono _ _ _ _ _ _)
   | (with_reducible exact LeO.refl _)
   | (with_reducible exact LeO.none _)
   | (with_reducible refine LeO.ite ?_ ?_)
   | (with_reducible refine LeO.bind ?_ (fun _ => ?_))
   | exact ih0 _ _ _ _ _ _ _ _
   | exact ih1 _ _ _ _ _ _ _ _ _
   | exact ih2 _ _ _ _ _ _
   | exact imageeditorref06_Dist.mono _ _ _ _ _ _ _ _ _
   | exact imageeditorref11_Check.mono _ _ _ _
   | exact imageeditorref24_reached.mono _ _ _ _ _ _
   | exact LeO.none _
   | refine LeO.ite ?_ ?_
   | refine LeO.bind ?_ (fun _ => ?_)
def imageeditorref24_Flood.T11 : Bool × List (List Nat × List Nat) := (true, [([], []), ([], []), ([1], [1]), ([], []), ([2, 3], [2, 3]), ([4], [4]), ([], []), ([6], [6]), ([], []), ([7, 8], [7, 8]), ([9], [9]), ([5, 10], [5, 10]), ([], []), ([11, 12], [11, 12]), ([13], [13]), ([0, 14, 11], [0, 14]), ([15, 15, 0, 1, 2, 3, 4, 5, 6, 7, 8, 9, 10, 11, 12, 13, 14, 15], [0, 15])])
def imageeditorref24_Flood.B11 : List Nat := [0, 0, 2, 0, 14, 30, 0, 64, 0, 448, 960, 2046, 0, 8190, 16382, 32767, 65535]
theorem imageeditorref24_Flood.tab11 : rtab .any (opsOf Try.f10 11) = imageeditorref24_Flood.T11 := by kernel_rfl
theorem imageeditorref24_Flood.bits11 : waitsOk imageeditorref24_Flood.T11.2 imageeditorref24_Flood.B11 = true := by kernel_rfl
set_option maxHeartbeats 8000000 in
set_option maxRecDepth 100000 in
theorem imageeditorref24_Flood.calls (k : Nat) (a0_0 : Int) (a0_1 : Int) (A0_2 : Option Addr) (c0_2 : Nat) (l0_2 : List (S37)) (a1_0 : Int) (a1_1 : Int) (a2 : Int) (a3 : Bool) (r1 : Int) (r2 : Int) (r3 : List Int) (r4 : Int) (w : World) (hr0_2 : Kd.C k37 w A0_2 l0_2.length l0_2) (hc0_2 : l0_2.length ≤ c0_2) (h : imageeditorref24_Flood.f k a0_0 a0_1 l0_2 a1_0 a1_1 a2 a3 = some (r1, r2, r3, r4)) :
  Calls Try.prog 10 #[.agg #[.int .i64 a0_0, .int .i64 a0_1, .slice A0_2 l0_2.length c0_2], .agg #[.int .i64 a1_0, .int .i64 a1_1], .int .i64 a2, .bool a3] w fun e w' => ∃ v2_ : Value, e = .returned (.tuple #[.agg #[.int .i64 r1, .int .i64 r2, v2_], .int .i64 r4]) ∧ Kd.R (Kd.int .i64) 3 w' w.heap.size (fun _ => True) v2_ r3 ∧ Below w.heap.size w w' := by
 have hu24 := Try.underlying24
 have hu26 := Try.underlying26
 have hu29 := Try.underlying29
 have hu37 := Try.underlying37
 have HR0_2 := Aside0.mk hr0_2
 have HC0_2 := Aside0.mk hc0_2
 clear hr0_2 hc0_2
 have HB := Aside0.mk (Below.refl w.heap.size w)
 have H : ((imageeditorref11_Check.f k a0_0 a0_1 l0_2).bind fun t242 => (if t242 = 0 then (if a1_0 < 0 then (imageeditorref24_Flood.j0 k a2 a3 true a0_0 a0_1 l0_2 a1_0 a1_1) else (if a1_0 ≥ a0_0 then (imageeditorref24_Flood.j0 k a2 a3 true a0_0 a0_1 l0_2 a1_0 a1_1) else (if a1_1 < 0 then (imageeditorref24_Flood.j0 k a2 a3 true a0_0 a0_1 l0_2 a1_0 a1_1) else (if a1_1 ≥ a0_1 then (imageeditorref24_Flood.j0 k a2 a3 true a0_0 a0_1 l0_2 a1_0 a1_1) else ((imageeditorref24_unit.f a2).bind fun t243 => (imageeditorref24_Flood.j0 k a2 a3 (!t243) a0_0 a0_1 l0_2 a1_0 a1_1)))))) else (some (0, 0, ([] : List Int), t242)))) = some (r1, r2, r3, r4) := h
 clear h
 replace H := Option.bind_eq_some_iff.mp H
 obtain ⟨t242, A50, H⟩ := H
 replace H : (if t242 = 0 then (if a1_0 < 0 then (imageeditorref24_Flood.j0 k a2 a3 true a0_0 a0_1 l0_2 a1_0 a1_1) else (if a1_0 ≥ a0_0 then (imageeditorref24_Flood.j0 k a2 a3 true a0_0 a0_1 l0_2 a1_0 a1_1) else (if a1_1 < 0 then (imageeditorref24_Flood.j0 k a2 a3 true a0_0 a0_1 l0_2 a1_0 a1_1) else (if a1_1 ≥ a0_1 then (imageeditorref24_Flood.j0 k a2 a3 true a0_0 a0_1 l0_2 a1_0 a1_1) else ((imageeditorref24_unit.f a2).bind fun t243 => (imageeditorref24_Flood.j0 k a2 a3 (!t243) a0_0 a0_1 l0_2 a1_0 a1_1)))))) else (some (0, 0, ([] : List Int), t242))) = some (r1, r2, r3, r4) := H
 have A5 := Aside0.mk A50
 clear A50
 by_cases c6 : t242 = 0
 ·rw [if_pos c6] at H
  have c6b0 : (t242 == 0) = true := beq_iff_eq.mpr c6
  have c6b1 : (t242 != 0) = false := bne_eq_false_iff_eq.mpr c6
  clear c6
  have HC7 := Aside0.mk H
  clear H
  go_enter Try.func10, Try.ntmps10
  go_upto_region 4 with (first | ((with_reducible refine gate_dst (N := 4) rfl ?_); refine box_event ?hg (N := 4) ?hd (cs := #[.int .i64 a0_0, .int .i64 a0_1, .slice A0_2 l0_2.length c0_2]) (t := 24) ?hr ?_; (case hd => rfl); (case hg => rfl); (case hr => first | (go_simp; done) | (go_simp; rfl)); intro gb239 hg w8 hbox hb; have GW239 := zg HB hg; have GE239 := zg HB hg; have n0_ := Aside0.mk (hbox); replace HB := zb HB hb; have BK239 := n0_; clear n0_; clear hb hbox hg) | ((with_reducible refine gate_dst (N := 5) rfl ?_); refine box_event ?hg (N := 5) ?hd (cs := #[.int .i64 a1_0, .int .i64 a1_1]) (t := 26) ?hr ?_; (case hd => rfl); (case hg => rfl); (case hr => first | (go_simp; done) | (go_simp; rfl)); intro gb240 hg w9 hbox hb; have GW240 := zg HB hg; have GE240 := zg HB hg; have NB239_240 := zn BK239 hg; have NB240_239 := zn' BK239 hg; have n0_ := Aside0.mk (hbox); replace BK239 := zk BK239 hb; replace HB := zb HB hb; have BK240 := n0_; clear n0_; clear hb hbox hg) | ((with_reducible refine gate_dst (N := 8) rfl ?_); refine box_event ?hg (N := 8) ?hd (cs := #[.int .i64 0, .int .i64 0, .slice none 0 0]) (t := 29) ?hr ?_; (case hd => rfl); (case hg => rfl); (case hr => first | (go_simp; done) | (go_simp; rfl)); intro gb241 hg w10 hbox hb; have GW241 := zg HB hg; have GE241 := zg HB hg; have NB239_241 := zn BK239 hg; have NB241_239 := zn' BK239 hg; have NB240_241 := zn BK240 hg; have NB241_240 := zn' BK240 hg; have n0_ := Aside0.mk (hbox); replace BK239 := zk BK239 hb; replace BK240 := zk BK240 hb; replace HB := zb HB hb; have BK241 := n0_; clear n0_; clear hb hbox hg; obtain ⟨hcz11_0, hcz11_1, hcz11_2, hfz11_0, hfz11_1, hfz11_2⟩ := zq3 BK239) | ((with_reducible refine gate_callee (f := 19) rfl ?_); refine goesL_ (some 19) rfl rfl Try.func19 (by kernel_rfl) rfl #[.agg #[.int .i64 a0_0, .int .i64 a0_1, .slice A0_2 l0_2.length c0_2]] rfl (by (try simp only [List.map_toArray, List.map_cons, List.map_nil]); first | done | rfl | (simp only [List.length_drop, List.length_take]; rfl)) ?_; (with_reducible refine (imageeditorref11_Check.calls k a0_0 a0_1 _ _ l0_2 t242 _ ?side1 ?side2 A5.out).mono ?_); (case side1 => repeat (first | exact (Kd.C_below HR0_2.out HB.out) | (with_reducible refine Kd.C_alloc ?_ _) | (with_reducible refine Kd.C_drewN ?_ _) | (with_reducible refine Kd.C_drew ?_))); (case side2 => exact HC0_2.out); rintro e w12 ⟨rfl, hb⟩; refine ⟨_, rfl, ?_⟩; replace BK239 := zk BK239 hb; replace BK240 := zk BK240 hb; replace BK241 := zk BK241 hb; replace HB := zb HB hb; (try clear hb); (try clear hb2); (try clear hk); (try clear hi)))
  (try simp only [Act.put, sA, sB, sC])
  go_cut [50] (fun v50 wc => ∃ (kq : Nat) (x50_6 : Bool), v50 = .bool x50_6 ∧ Aside0 (imageeditorref24_Flood.j0 kq a2 a3 x50_6 a0_0 a0_1 l0_2 a1_0 a1_1 = some (r1, r2, r3, r4)) ∧ Aside0 (kq ≤ k) ∧ Aside0 (wc.heap[gb239]? = some (.cells #[.int .i64 a0_0, .int .i64 a0_1, (.slice A0_2 l0_2.length c0_2)] 24 (0, 0))) ∧ Aside0 (wc.heap[gb240]? = some (.cells #[.int .i64 a1_0, .int .i64 a1_1] 26 (0, 0))) ∧ Aside0 (wc.heap[gb241]? = some (.cells #[.int .i64 0, .int .i64 0, (.slice none 0 0)] 29 (0, 0))) ∧ Aside0 (Below w.heap.size w wc))
  case first =>
   have H := HC7.out
   clear HC7
   by_cases c13 : a1_0 < 0
   ·rw [if_pos c13] at H
    have c13b0 : decide (a1_0 < 0) = true := decide_eq_true c13
    clear c13
    (first | rw [c13b0] | (simp only [i64_w, i32_w]; rw [c13b0]) | skip)
    have H' := Aside0.mk H
    clear H
    obtain ⟨hcz14_0, hcz14_1, hfz14_0, hfz14_1⟩ := zq2 BK240
    go_wp2
    go_meet
    case rel => exact ⟨_, (true), (by first | rfl | (simp; done) | (simp [*]; done)), H', ⟨by first | omega | exact Nat.le_refl _⟩, ⟨by exact zk0 BK239⟩, ⟨by exact zk0 BK240⟩, ⟨by exact zk0 BK241⟩, ⟨by exact zb0 HB⟩⟩
   ·rw [if_neg c13] at H
    have c13b0 : decide (a1_0 < 0) = false := decide_eq_false c13
    clear c13
    (first | rw [c13b0] | (simp only [i64_w, i32_w]; rw [c13b0]) | skip)
    by_cases c15 : a1_0 ≥ a0_0
    ·rw [if_pos c15] at H
     have c15b0 : decide (a0_0 ≤ a1_0) = true := decide_eq_true c15
     clear c15
     have H' := Aside0.mk H
     clear H
     obtain ⟨hcz16_0, hcz16_1, hfz16_0, hfz16_1⟩ := zq2 BK240
     obtain ⟨hcz17_0, hcz17_1, hcz17_2, hfz17_0, hfz17_1, hfz17_2⟩ := zq3 BK239
     go_wp2
     go_meet
     case rel => exact ⟨_, (true), (by first | rfl | (simp; done) | (simp [*]; done)), H', ⟨by first | omega | exact Nat.le_refl _⟩, ⟨by exact zk0 BK239⟩, ⟨by exact zk0 BK240⟩, ⟨by exact zk0 BK241⟩, ⟨by exact zb0 HB⟩⟩
    ·rw [if_neg c15] at H
     have c15b0 : decide (a0_0 ≤ a1_0) = false := decide_eq_false c15
     clear c15
     by_cases c18 : a1_1 < 0
     ·rw [if_pos c18] at H
      have c18b0 : decide (a1_1 < 0) = true := decide_eq_true c18
      clear c18
      have H' := Aside0.mk H
      clear H
      obtain ⟨hcz19_0, hcz19_1, hfz19_0, hfz19_1⟩ := zq2 BK240
      obtain ⟨hcz20_0, hcz20_1, hcz20_2, hfz20_0, hfz20_1, hfz20_2⟩ := zq3 BK239
      go_wp2
      go_meet
      case rel => exact ⟨_, (true), (by first | rfl | (simp; done) | (simp [*]; done)), H', ⟨by first | omega | exact Nat.le_refl _⟩, ⟨by exact zk0 BK239⟩, ⟨by exact zk0 BK240⟩, ⟨by exact zk0 BK241⟩, ⟨by exact zb0 HB⟩⟩
     ·rw [if_neg c18] at H
      have c18b0 : decide (a1_1 < 0) = false := decide_eq_false c18
      clear c18
      by_cases c21 : a1_1 ≥ a0_1
      ·rw [if_pos c21] at H
       have c21b0 : decide (a0_1 ≤ a1_1) = true := decide_eq_true c21
       clear c21
       have H' := Aside0.mk H
       clear H
       obtain ⟨hcz22_0, hcz22_1, hfz22_0, hfz22_1⟩ := zq2 BK240
       obtain ⟨hcz23_0, hcz23_1, hcz23_2, hfz23_0, hfz23_1, hfz23_2⟩ := zq3 BK239
       go_wp2
       go_meet
       case rel => exact ⟨_, (true), (by first | rfl | (simp; done) | (simp [*]; done)), H', ⟨by first | omega | exact Nat.le_refl _⟩, ⟨by exact zk0 BK239⟩, ⟨by exact zk0 BK240⟩, ⟨by exact zk0 BK241⟩, ⟨by exact zb0 HB⟩⟩
      ·rw [if_neg c21] at H
       have c21b0 : decide (a0_1 ≤ a1_1) = false := decide_eq_false c21
       clear c21
       replace H := Option.bind_eq_some_iff.mp H
       obtain ⟨t243, A240, H⟩ := H
       replace H : (imageeditorref24_Flood.j0 k a2 a3 (!t243) a0_0 a0_1 l0_2 a1_0 a1_1) = some (r1, r2, r3, r4) := H
       have A24 := Aside0.mk A240
       clear A240
       have H' := Aside0.mk H
       clear H
       obtain ⟨hcz25_0, hcz25_1, hfz25_0, hfz25_1⟩ := zq2 BK240
       obtain ⟨hcz26_0, hcz26_1, hcz26_2, hfz26_0, hfz26_1, hfz26_2⟩ := zq3 BK239
       go_wp2_with (first | (go_at_call 25; (with_reducible refine (imageeditorref24_unit.calls a2 t243 _ A24.out).mono ?_); rintro e w' ⟨rfl, ⟨nd, rfl⟩⟩))
       go_meet
       case rel => exact ⟨_, (!t243), (by first | rfl | (simp; done) | (simp [*]; done)), H', ⟨by first | omega | exact Nat.le_refl _⟩, ⟨by exact zk0 BK239⟩, ⟨by exact zk0 BK240⟩, ⟨by exact zk0 BK241⟩, ⟨by exact zb0 HB⟩⟩
  case rest =>
   clear HC7
   try clear c1
   try clear c2
   try clear p2
   try clear q2
   try clear q3
   try clear c6
   try clear c6b0
   try clear c6b1
   try clear c10
   try clear c13
   try clear c13b0
   try clear c15
   try clear c15b0
   try clear c18
   try clear c18b0
   try clear c19
   try clear c21
   try clear c21b0
   try clear hcz11_0
   try clear hcz11_1
   try clear hcz11_2
   try clear hcz14_0
   try clear hcz14_1
   try clear hcz16_0
   try clear hcz16_1
   try clear hcz17_0
   try clear hcz17_1
   try clear hcz17_2
   try clear hcz19_0
   try clear hcz19_1
   try clear hcz20_0
   try clear hcz20_1
   try clear hcz20_2
   try clear hcz22_0
   try clear hcz22_1
   try clear hcz23_0
   try clear hcz23_1
   try clear hcz23_2
   try clear hcz25_0
   try clear hcz25_1
   try clear hcz26_0
   try clear hcz26_1
   try clear hcz26_2
   try clear hfz11_0
   try clear hfz11_1
   try clear hfz11_2
   try clear hfz14_0
   try clear hfz14_1
   try clear hfz16_0
   try clear hfz16_1
   try clear hfz17_0
   try clear hfz17_1
   try clear hfz17_2
   try clear hfz19_0
   try clear hfz19_1
   try clear hfz20_0
   try clear hfz20_1
   try clear hfz20_2
   try clear hfz22_0
   try clear hfz22_1
   try clear hfz23_0
   try clear hfz23_1
   try clear hfz23_2
   try clear hfz25_0
   try clear hfz25_1
   try clear hfz26_0
   try clear hfz26_1
   try clear hfz26_2
   obtain ⟨kq, x50_6, rfl, HA, HJ6, BK239, BK240, BK241, HB⟩ := hcut
   cases kq with
   | zero => exact absurd HA.out (by simp [imageeditorref24_Flood.j0])
   | succ kj6 =>
    have H := HA.out
    clear HA
    simp only [imageeditorref24_Flood.j0] at H
    by_cases c27 : x50_6 = true
    ·subst c27
     have H1 : (some (0, 0, ([] : List Int), 2)) = some (r1, r2, r3, r4) := by rw [if_pos rfl] at H; exact H
     clear H
     have H := H1
     clear H1
     simp only [Option.some.injEq, Prod.mk.injEq] at H
     obtain ⟨rfl, rfl, rfl, rfl⟩ := H
     have hnb28 := NB241_239.out
     have hnc28 := NB239_241.out
     have hnb29 := NB241_240.out
     have hnc29 := NB240_241.out
     obtain ⟨hcz30_0, hcz30_1, hcz30_2, hfz30_0, hfz30_1, hfz30_2⟩ := zq3 BK241
     go_wp2
     refine bodyPost_ret (results_ct rfl _ _ gb241 29 #[.int .i64 0, .int .i64 0, .slice none 0 0] (0, 0) _ rfl (by exact zp BK241 rfl) Try.underlying29 rfl (by kernel_rfl)) rfl ?_
     exact ⟨_, by first | rfl | (simp [errW_none, errW_some] <;> rfl) | (simp [*, errW_none, errW_some] <;> rfl), by first | exact Kd.R_nil _ _ _ _ _ | exact Kd.N_nil _ _ _ _ _ | exact Kd.V_nil _ _ _ _ _ | exact Kd.Q_nil _ _ _ _ _ | exact Kd.S_nil _ _ _ _ _, by exact zbo HB GE241⟩
    ·replace c27 := Bool.eq_false_iff.mpr c27
     subst c27
     have H1 : (imageeditorref24_Flood.l0 kj6 a2 a3 (wrap64 ((wrap64 (a1_1 * a0_0)) + a1_0)) ([] : List Bool) (l0_2.length : Int) 0 a0_0 a0_1 l0_2) = some (r1, r2, r3, r4) := by rw [if_neg (show ¬ (false = true) by decide)] at H; exact H
     clear H
     have H := H1
     clear H1
     have H' := Aside0.mk H
     clear H
     obtain ⟨hcz31_0, hcz31_1, hfz31_0, hfz31_1⟩ := zq2 BK240
     obtain ⟨hcz32_0, hcz32_1, hcz32_2, hfz32_0, hfz32_1, hfz32_2⟩ := zq3 BK239
     go_wp2
     go_loopg [12, 63] kj6 (fun kq v12 v63 w' => ∃ (x12_2 : List Bool) (x63_2 : Int), v63 = .int .i64 x63_2 ∧ Aside0 (imageeditorref24_Flood.l0 kq a2 a3 (wrap64 ((wrap64 (a1_1 * a0_0)) + a1_0)) x12_2 (l0_2.length : Int) x63_2 a0_0 a0_1 l0_2 = some (r1, r2, r3, r4)) ∧ Aside0 (kq ≤ kj6) ∧ Aside0 (Kd.R Kd.bool 4 w' w.heap.size (fun _ => True) v12 x12_2) ∧ Aside0 (w'.heap[gb239]? = some (.cells #[.int .i64 a0_0, .int .i64 a0_1, (.slice A0_2 l0_2.length c0_2)] 24 (0, 0))) ∧ Aside0 (w'.heap[gb240]? = some (.cells #[.int .i64 a1_0, .int .i64 a1_1] 26 (0, 0))) ∧ Aside0 (w'.heap[gb241]? = some (.cells #[.int .i64 0, .int .i64 0, (.slice none 0 0)] 29 (0, 0))) ∧ Aside0 (Below w.heap.size w w'))
     case atStart => exact ⟨(([] : List Bool)), (0), (by first | rfl | (simp; done) | (simp [*]; done)), H', ⟨Nat.le_refl _⟩, ⟨by first | exact Kd.R_nil _ _ _ _ _ | exact Kd.N_nil _ _ _ _ _ | exact Kd.V_nil _ _ _ _ _ | exact Kd.Q_nil _ _ _ _ _ | exact Kd.S_nil _ _ _ _ _⟩, ⟨by exact zk0 BK239⟩, ⟨by exact zk0 BK240⟩, ⟨by exact zk0 BK241⟩, ⟨by exact zb0 HB⟩⟩
     case round =>
      clear H'
      try clear c1
      try clear c2
      try clear p2
      try clear q2
      try clear q3
      try clear c6
      try clear c6b0
      try clear c6b1
      try clear p6
      try clear c10
      try clear c13
      try clear c13b0
      try clear c15
      try clear c15b0
      try clear c18
      try clear c18b0
      try clear c19
      try clear c21
      try clear c21b0
      try clear c27
      try clear c28
      try clear c29
      try clear hcz11_0
      try clear hcz11_1
      try clear hcz11_2
      try clear hcz14_0
      try clear hcz14_1
      try clear hcz16_0
      try clear hcz16_1
      try clear hcz17_0
      try clear hcz17_1
      try clear hcz17_2
      try clear hcz19_0
      try clear hcz19_1
      try clear hcz20_0
      try clear hcz20_1
      try clear hcz20_2
      try clear hcz22_0
      try clear hcz22_1
      try clear hcz23_0
      try clear hcz23_1
      try clear hcz23_2
      try clear hcz25_0
      try clear hcz25_1
      try clear hcz26_0
      try clear hcz26_1
      try clear hcz26_2
      try clear hcz30_0
      try clear hcz30_1
      try clear hcz30_2
      try clear hcz31_0
      try clear hcz31_1
      try clear hcz32_0
      try clear hcz32_1
      try clear hcz32_2
      try clear hfz11_0
      try clear hfz11_1
      try clear hfz11_2
      try clear hfz14_0
      try clear hfz14_1
      try clear hfz16_0
      try clear hfz16_1
      try clear hfz17_0
      try clear hfz17_1
      try clear hfz17_2
      try clear hfz19_0
      try clear hfz19_1
      try clear hfz20_0
      try clear hfz20_1
      try clear hfz20_2
      try clear hfz22_0
      try clear hfz22_1
      try clear hfz23_0
      try clear hfz23_1
      try clear hfz23_2
      try clear hfz25_0
      try clear hfz25_1
      try clear hfz26_0
      try clear hfz26_1
      try clear hfz26_2
      try clear hfz30_0
      try clear hfz30_1
      try clear hfz30_2
      try clear hfz31_0
      try clear hfz31_1
      try clear hfz32_0
      try clear hfz32_1
      try clear hfz32_2
      try clear p2
      try clear q2
      try clear q3
      obtain ⟨x12_2, x63_2, rfl, HA, HK2, HO_12, BK239, BK240, BK241, HB⟩ := hrel
      cases gk with
      | zero => exact absurd HA.out (by simp [imageeditorref24_Flood.l0])
      | succ k2 =>
       have H := HA.out
       clear HA
       simp only [imageeditorref24_Flood.l0] at H
       by_cases c33 : x63_2 < (l0_2.length : Int)
       ·rw [if_pos c33] at H
        have c33b0 : decide (x63_2 < (l0_2.length : Int)) = true := decide_eq_true c33
        clear c33
        by_cases c34 : 0 ≤ x63_2
        ·rw [if_pos c34] at H
         have c34b0 : decide (0 ≤ x63_2) = true := decide_eq_true c34
         clear c34
         by_cases c35 : x63_2 < (l0_2.length : Int)
         ·rw [if_pos c35] at H
          have c35b0 : decide (x63_2 < (l0_2.length : Int)) = true := decide_eq_true c35
          clear c35
          obtain ⟨ji36, hji36⟩ : ∃ j_ : Int, (wrap64 ((wrap64 (a1_1 * a0_0)) + a1_0)) = j_ := ⟨_, rfl⟩
          replace H : (if 0 ≤ (ji36) then (if (ji36) < (l0_2.length : Int) then ((imageeditorref06_Dist.f k2 ((rd_T37 l0_2 x63_2).f0) ((rd_T37 l0_2 x63_2).f1) ((rd_T37 l0_2 x63_2).f2) ((rd_T37 l0_2 x63_2).f3) ((rd_T37 l0_2 (ji36)).f0) ((rd_T37 l0_2 (ji36)).f1) ((rd_T37 l0_2 (ji36)).f2) ((rd_T37 l0_2 (ji36)).f3)).bind fun t246 => (if x12_2.length < 140737488355328 then (imageeditorref24_Flood.l0 k2 a2 a3 (ji36) (x12_2 ++ [decide (t246 ≤ a2)]) (l0_2.length : Int) (wrap64 (x63_2 + 1)) a0_0 a0_1 l0_2) else (none))) else (none)) else (none)) = some (r1, r2, r3, r4) := by first | (rw [hji36] at H; exact H) | (simp only [hji36] at H ⊢; exact H)
          have hji36w : (IntKind.i64.wrap ((wrap64 (a1_1 * a0_0)) + a1_0)) = ji36 := (i64_w _).trans hji36
          by_cases c37 : 0 ≤ (ji36)
          ·rw [if_pos c37] at H
           have c37b0 : decide (0 ≤ (ji36)) = true := decide_eq_true c37
           clear c37
           by_cases c38 : (ji36) < (l0_2.length : Int)
           ·rw [if_pos c38] at H
            have c38b0 : decide ((ji36) < (l0_2.length : Int)) = true := decide_eq_true c38
            clear c38
            replace H := Option.bind_eq_some_iff.mp H
            obtain ⟨t246, A390, H⟩ := H
            replace H : (if x12_2.length < 140737488355328 then (imageeditorref24_Flood.l0 k2 a2 a3 (ji36) (x12_2 ++ [decide (t246 ≤ a2)]) (l0_2.length : Int) (wrap64 (x63_2 + 1)) a0_0 a0_1 l0_2) else (none)) = some (r1, r2, r3, r4) := H
            have A39 := Aside0.mk A390
            clear A390
            by_cases c40 : x12_2.length < 140737488355328
            ·rw [if_pos c40] at H
             have LMc40 := Aside0.mk c40
             clear c40
             obtain ⟨y247, hy247⟩ : ∃ y_ : List Bool, y_ = (x12_2 ++ [decide (t246 ≤ a2)]) := ⟨_, rfl⟩
             replace H : (imageeditorref24_Flood.l0 k2 a2 a3 (ji36) y247 (l0_2.length : Int) (wrap64 (x63_2 + 1)) a0_0 a0_1 l0_2) = some (r1, r2, r3, r4) := by first | (rw [hy247]; with_reducible exact H) | (have H2_ := (Option.bind_some _ _).symm.trans H; rw [hy247]; with_reducible exact H2_) | (have H2_ := (Option.bind_some _ _).symm.trans H; with_reducible exact H2_) | with_reducible exact H | (rw [hy247]; exact H) | exact H
             have Ny247 := Aside0.mk hy247
             clear hy247
             have H' := Aside0.mk H
             clear H
             try go_wp2
             replace HO_12 := zrd HO_12
             replace BK239 := zkd BK239
             replace BK240 := zkd BK240
             replace BK241 := zkd BK241
             replace HB := zbd HB
             have p244 : 0 ≤ (x63_2 : Int) := of_decide_eq_true (by first | (with_reducible assumption) | assumption)
             have q244 : x63_2 < (l0_2.length : Int) := of_decide_eq_true (by first | (with_reducible assumption) | assumption)
             obtain ⟨ad244, e244, hx244_0, hx244_1, hx244_2, hx244_3⟩ := at_T37 HR0_2.out x63_2 p244 q244
             have hw244_3 := hx244_3
             have hw244_2 := hx244_2
             have hw244_1 := hx244_1
             have hw244_0 := hx244_0
             cases e244
             replace hx244_0 := (HB.out.cell (World.block_lt_of_cell? w _ hx244_0)).trans hx244_0
             replace hx244_1 := (HB.out.cell (World.block_lt_of_cell? w _ hx244_1)).trans hx244_1
             replace hx244_2 := (HB.out.cell (World.block_lt_of_cell? w _ hx244_2)).trans hx244_2
             replace hx244_3 := (HB.out.cell (World.block_lt_of_cell? w _ hx244_3)).trans hx244_3
             replace p244 := eq_true p244
             replace q244 := eq_true q244
             have p245 : 0 ≤ ((ji36) : Int) := of_decide_eq_true (by first | (with_reducible assumption) | assumption)
             have q245 : (ji36) < (l0_2.length : Int) := of_decide_eq_true (by first | (with_reducible assumption) | assumption)
             obtain ⟨ad245, e245, hx245_0, hx245_1, hx245_2, hx245_3⟩ := at_T37 HR0_2.out (ji36) p245 q245
             have hw245_3 := hx245_3
             have hw245_2 := hx245_2
             have hw245_1 := hx245_1
             have hw245_0 := hx245_0
             obtain rfl : ad244 = ad245 := (by injection e245)
             replace hx245_0 := (HB.out.cell (World.block_lt_of_cell? w _ hx245_0)).trans hx245_0
             replace hx245_1 := (HB.out.cell (World.block_lt_of_cell? w _ hx245_1)).trans hx245_1
             replace hx245_2 := (HB.out.cell (World.block_lt_of_cell? w _ hx245_2)).trans hx245_2
             replace hx245_3 := (HB.out.cell (World.block_lt_of_cell? w _ hx245_3)).trans hx245_3
             replace p245 := eq_true p245
             replace q245 := eq_true q245
             refine start_ (n := 17) (S := fun w' => w'.cell? ⟨gb239, 0, none⟩ = some (.int .i64 a0_0) ∧ w'.cell? ⟨gb239, 1, none⟩ = some (.int .i64 a0_1) ∧ w'.cell? ⟨gb239, 2, none⟩ = some (.slice (some ad244) l0_2.length c0_2) ∧ w'.cell? (ad244.add ((x63_2).toNat * 4)) = some (.int .i64 ((rd_T37 l0_2 x63_2).f0)) ∧ w'.cell? ⟨(ad244.add ((x63_2).toNat * 4)).block, (ad244.add ((x63_2).toNat * 4)).off + 1, none⟩ = some (.int .i64 ((rd_T37 l0_2 x63_2).f1)) ∧ w'.cell? ⟨(ad244.add ((x63_2).toNat * 4)).block, (ad244.add ((x63_2).toNat * 4)).off + 2, none⟩ = some (.int .i64 ((rd_T37 l0_2 x63_2).f2)) ∧ w'.cell? ⟨(ad244.add ((x63_2).toNat * 4)).block, (ad244.add ((x63_2).toNat * 4)).off + 3, none⟩ = some (.int .i64 ((rd_T37 l0_2 x63_2).f3)) ∧ w'.cell? (ad244.add (((ji36)).toNat * 4)) = some (.int .i64 ((rd_T37 l0_2 (ji36)).f0)) ∧ w'.cell? ⟨(ad244.add (((ji36)).toNat * 4)).block, (ad244.add (((ji36)).toNat * 4)).off + 1, none⟩ = some (.int .i64 ((rd_T37 l0_2 (ji36)).f1)) ∧ w'.cell? ⟨(ad244.add (((ji36)).toNat * 4)).block, (ad244.add (((ji36)).toNat * 4)).off + 2, none⟩ = some (.int .i64 ((rd_T37 l0_2 (ji36)).f2)) ∧ w'.cell? ⟨(ad244.add (((ji36)).toNat * 4)).block, (ad244.add (((ji36)).toNat * 4)).off + 3, none⟩ = some (.int .i64 ((rd_T37 l0_2 (ji36)).f3))) (ds := []) (bs 17 0) (by kernel_rfl) rfl rfl ⟨(blk_cell BK239.out 0).trans rfl, (blk_cell BK239.out 1).trans rfl, (blk_cell BK239.out 2).trans rfl, ((HB.out.cell (World.block_lt_of_cell? w _ hw244_0)).trans hw244_0), ((HB.out.cell (World.block_lt_of_cell? w _ hw244_1)).trans hw244_1), ((HB.out.cell (World.block_lt_of_cell? w _ hw244_2)).trans hw244_2), ((HB.out.cell (World.block_lt_of_cell? w _ hw244_3)).trans hw244_3), ((HB.out.cell (World.block_lt_of_cell? w _ hw245_0)).trans hw245_0), ((HB.out.cell (World.block_lt_of_cell? w _ hw245_1)).trans hw245_1), ((HB.out.cell (World.block_lt_of_cell? w _ hw245_2)).trans hw245_2), ((HB.out.cell (World.block_lt_of_cell? w _ hw245_3)).trans hw245_3)⟩ (fun hHeld => ?_); refine with_tabW imageeditorref24_Flood.tab11 imageeditorref24_Flood.bits11 (fun HT_ HW_ => ?_)
             generalize wr.drew = w41 at HO_12 BK239 BK240 BK241 HB hx244_0 hx244_1 hx244_2 hx244_3 hx245_0 hx245_1 hx245_2 hx245_3 hHeld ⊢
             refine pure_ (i := 0) (N := some 66) (v := ?_) (a' := ?_) (bs 17 1) rfl rfl (any_of HT_.out (by kernel_rfl)) (fun _ _ _ h => h) (Or.inl ⟨by rfl, ?_⟩) ?_ ?_
             rotate_left
             ·intro w'
              go_simp
              with_reducible rfl
             rotate_left
             ·simp only [Act.put, sA, sB, sC, i64_w, i32_w]
              rfl
             refine pure_ (i := 1) (N := some 67) (v := ?_) (a' := ?_) (bs 17 3) rfl rfl (any_of HT_.out (by kernel_rfl)) (fun _ _ _ h => h) (Or.inl ⟨by rfl, ?_⟩) ?_ ?_
             rotate_left
             ·intro w'
              go_simp
              with_reducible rfl
             rotate_left
             ·simp only [Act.put, sA, sB, sC, i64_w, i32_w]
              rfl
             refine pure_ (i := 3) (N := some 69) (v := ?_) (a' := ?_) (bs 17 11) rfl rfl (any_of HT_.out (by kernel_rfl)) (fun _ _ _ h => h) (Or.inl ⟨by rfl, ?_⟩) ?_ ?_
             rotate_left
             ·intro w'
              go_simp
              with_reducible rfl
             rotate_left
             ·simp only [Act.put, sA, sB, sC, i64_w, i32_w]
              rfl
             refine pure_ (i := 6) (N := some 72) (v := ?_) (a' := ?_) (bs 17 75) rfl rfl (any_of HT_.out (by kernel_rfl)) (fun _ _ _ h => h) (Or.inl ⟨by rfl, ?_⟩) ?_ ?_
             rotate_left
             ·intro w'
              go_simp
              with_reducible rfl
             rotate_left
             ·simp only [Act.put, sA, sB, sC, i64_w, i32_w]
              rfl
             refine pure_ (i := 8) (N := some 74) (v := ?_) (a' := ?_) (bs 17 331) rfl rfl (any_of HT_.out (by kernel_rfl)) (fun _ _ _ h => h) (Or.inl ⟨by rfl, ?_⟩) ?_ ?_
             rotate_left
             ·intro w'
              go_simp
              with_reducible rfl
             rotate_left
             ·simp only [Act.put, sA, sB, sC, i64_w, i32_w]
              rfl
             refine pure_ (i := 12) (N := some 78) (v := ?_) (a' := ?_) (bs 17 4427) rfl rfl (any_of HT_.out (by kernel_rfl)) (fun _ _ _ h => h) (Or.inl ⟨by rfl, ?_⟩) ?_ ?_
             rotate_left
             ·intro w'
              go_simp
              with_reducible rfl
             rotate_left
             ·simp only [Act.put, sA, sB, sC, i64_w, i32_w]
              rfl
             refine take_ (i := 2) (N := some 68) (v := ?_) (a' := ?_) (bs 17 4431) rfl rfl (take_ofW HT_.out HW_.out (by kernel_rfl)) (fun _ _ _ h => h) (Or.inl ⟨by rfl, ?_⟩) hHeld ?_ ?_
             rotate_left
             ·rintro w' ⟨s0, s1, s2, s3, s4, s5, s6, s7, s8, s9, s10⟩
              go_simp
              with_reducible rfl
             rotate_left
             ·simp only [Act.put, sA, sB, sC, i64_w, i32_w]
              rfl
             refine pure_ (i := 4) (N := some 70) (v := ?_) (a' := ?_) (bs 17 4447) rfl rfl (any_of HT_.out (by kernel_rfl)) (fun _ _ _ h => h) (Or.inl ⟨by rfl, ?_⟩) ?_ ?_
             rotate_left
             ·intro w'
              go_simp
              with_reducible rfl
             rotate_left
             ·simp only [Act.put, sA, sB, sC, i64_w, i32_w]
              rfl
             refine take_ (i := 5) (N := some 71) (v := ?_) (a' := ?_) (bs 17 4479) rfl rfl (take_ofW HT_.out HW_.out (by kernel_rfl)) (fun _ _ _ h => h) (Or.inl ⟨by rfl, ?_⟩) hHeld ?_ ?_
             rotate_left
             ·rintro w' ⟨s0, s1, s2, s3, s4, s5, s6, s7, s8, s9, s10⟩
              go_simp
              with_reducible rfl
             rotate_left
             ·simp only [Act.put, sA, sB, sC, i64_w, i32_w]
              rfl
             refine take_ (i := 7) (N := some 73) (v := ?_) (a' := ?_) (bs 17 4607) rfl rfl (take_ofW HT_.out HW_.out (by kernel_rfl)) (fun _ _ _ h => h) (Or.inl ⟨by rfl, ?_⟩) hHeld ?_ ?_
             rotate_left
             ·rintro w' ⟨s0, s1, s2, s3, s4, s5, s6, s7, s8, s9, s10⟩
              go_simp
              with_reducible rfl
             rotate_left
             ·simp only [Act.put, sA, sB, sC, i64_w, i32_w]
              rfl
             refine pure_ (i := 9) (N := some 75) (v := ?_) (a' := ?_) (bs 17 5119) rfl rfl (any_of HT_.out (by kernel_rfl)) (fun _ _ _ h => h) (Or.inl ⟨by rfl, ?_⟩) ?_ ?_
             rotate_left
             ·intro w'
              go_simp
              with_reducible rfl
             rotate_left
             ·simp only [Act.put, sA, sB, sC, i64_w, i32_w]
              rfl
             refine take_ (i := 10) (N := some 76) (v := ?_) (a' := ?_) (bs 17 6143) rfl rfl (take_ofW HT_.out HW_.out (by kernel_rfl)) (fun _ _ _ h => h) (Or.inl ⟨by rfl, ?_⟩) hHeld ?_ ?_
             rotate_left
             ·rintro w' ⟨s0, s1, s2, s3, s4, s5, s6, s7, s8, s9, s10⟩
              go_simp
              with_reducible rfl
             rotate_left
             ·simp only [Act.put, sA, sB, sC, i64_w, i32_w]
              rfl
             refine one_ (i := 11) (N := some 77) (bs 17 8191) rfl rfl (one_of HT_.out (by kernel_rfl)) (by decide) (fun K hK => ?_)
             refine goes_ Try.func26 (by kernel_rfl) rfl #[.agg #[.int .i64 ((rd_T37 l0_2 x63_2).f0), .int .i64 ((rd_T37 l0_2 x63_2).f1), .int .i64 ((rd_T37 l0_2 x63_2).f2), .int .i64 ((rd_T37 l0_2 x63_2).f3)], .agg #[.int .i64 ((rd_T37 l0_2 (ji36)).f0), .int .i64 ((rd_T37 l0_2 (ji36)).f1), .int .i64 ((rd_T37 l0_2 (ji36)).f2), .int .i64 ((rd_T37 l0_2 (ji36)).f3)]] (by rfl) rfl rfl (by (try simp only [List.map_toArray, List.map_cons, List.map_nil]); first | done | (simp only [hji36]; rfl) | rfl | (simp only [List.length_drop, List.length_take]; rfl)) ?_
             with_reducible refine (imageeditorref06_Dist.calls k2 ((rd_T37 l0_2 x63_2).f0) ((rd_T37 l0_2 x63_2).f1) ((rd_T37 l0_2 x63_2).f2) ((rd_T37 l0_2 x63_2).f3) ((rd_T37 l0_2 (ji36)).f0) ((rd_T37 l0_2 (ji36)).f1) ((rd_T37 l0_2 (ji36)).f2) ((rd_T37 l0_2 (ji36)).f3) t246 _ A39.out).mono ?_
             rintro e w42 ⟨rfl, hb⟩
             refine ⟨_, rfl, ?_⟩
             replace HO_12 := zr HO_12 hb
             replace BK239 := zk BK239 hb
             replace BK240 := zk BK240 hb
             replace BK241 := zk BK241 hb
             replace HB := zb HB hb
             (try clear hb)
             (try clear hb2)
             (try clear hk)
             (try clear hi)
             refine hK.out _ _ ⟨(blk_cell BK239.out 0).trans rfl, (blk_cell BK239.out 1).trans rfl, (blk_cell BK239.out 2).trans rfl, ((HB.out.cell (World.block_lt_of_cell? w _ hw244_0)).trans hw244_0), ((HB.out.cell (World.block_lt_of_cell? w _ hw244_1)).trans hw244_1), ((HB.out.cell (World.block_lt_of_cell? w _ hw244_2)).trans hw244_2), ((HB.out.cell (World.block_lt_of_cell? w _ hw244_3)).trans hw244_3), ((HB.out.cell (World.block_lt_of_cell? w _ hw245_0)).trans hw245_0), ((HB.out.cell (World.block_lt_of_cell? w _ hw245_1)).trans hw245_1), ((HB.out.cell (World.block_lt_of_cell? w _ hw245_2)).trans hw245_2), ((HB.out.cell (World.block_lt_of_cell? w _ hw245_3)).trans hw245_3)⟩ (fun hHeld => ?_)
             clear hK K
             refine norm_ (a' := ?_) ?_ ?_
             rotate_left
             ·show Act.put _ (some 77) _ = _
              simp only [Act.put, sA, sB, sC, i64_w, i32_w]
              rfl
             refine pure_ (i := 13) (N := some 79) (v := ?_) (a' := ?_) (bs 17 16383) rfl rfl (any_of HT_.out (by kernel_rfl)) (fun _ _ _ h => h) (Or.inl ⟨by rfl, ?_⟩) ?_ ?_
             rotate_left
             ·intro w'
              go_simp
              with_reducible rfl
             rotate_left
             ·simp only [Act.put, sA, sB, sC, i64_w, i32_w]
              rfl
             refine one_ (i := 14) (N := some 80) (bs 17 32767) rfl rfl (one_of HT_.out (by kernel_rfl)) (by decide) (fun K hK => ?_)
             refine value_ (w1 := ?_) (v := ?_) (by rfl) rfl ?_ ?_
             rotate_left 2
             ·go_simp
              constructor
              ·rfl
              ·rfl
             refine hK.out _ _ ⟨(blk_cell (blk_alloc BK239.out _) 0).trans rfl, (blk_cell (blk_alloc BK239.out _) 1).trans rfl, (blk_cell (blk_alloc BK239.out _) 2).trans rfl, (World.cell?_alloc_lt _ _ _ (World.block_lt_of_cell? _ _ (((HB.out.cell (World.block_lt_of_cell? w _ hw244_0)).trans hw244_0)))).trans (((HB.out.cell (World.block_lt_of_cell? w _ hw244_0)).trans hw244_0)), (World.cell?_alloc_lt _ _ _ (World.block_lt_of_cell? _ _ (((HB.out.cell (World.block_lt_of_cell? w _ hw244_1)).trans hw244_1)))).trans (((HB.out.cell (World.block_lt_of_cell? w _ hw244_1)).trans hw244_1)), (World.cell?_alloc_lt _ _ _ (World.block_lt_of_cell? _ _ (((HB.out.cell (World.block_lt_of_cell? w _ hw244_2)).trans hw244_2)))).trans (((HB.out.cell (World.block_lt_of_cell? w _ hw244_2)).trans hw244_2)), (World.cell?_alloc_lt _ _ _ (World.block_lt_of_cell? _ _ (((HB.out.cell (World.block_lt_of_cell? w _ hw244_3)).trans hw244_3)))).trans (((HB.out.cell (World.block_lt_of_cell? w _ hw244_3)).trans hw244_3)), (World.cell?_alloc_lt _ _ _ (World.block_lt_of_cell? _ _ (((HB.out.cell (World.block_lt_of_cell? w _ hw245_0)).trans hw245_0)))).trans (((HB.out.cell (World.block_lt_of_cell? w _ hw245_0)).trans hw245_0)), (World.cell?_alloc_lt _ _ _ (World.block_lt_of_cell? _ _ (((HB.out.cell (World.block_lt_of_cell? w _ hw245_1)).trans hw245_1)))).trans (((HB.out.cell (World.block_lt_of_cell? w _ hw245_1)).trans hw245_1)), (World.cell?_alloc_lt _ _ _ (World.block_lt_of_cell? _ _ (((HB.out.cell (World.block_lt_of_cell? w _ hw245_2)).trans hw245_2)))).trans (((HB.out.cell (World.block_lt_of_cell? w _ hw245_2)).trans hw245_2)), (World.cell?_alloc_lt _ _ _ (World.block_lt_of_cell? _ _ (((HB.out.cell (World.block_lt_of_cell? w _ hw245_3)).trans hw245_3)))).trans (((HB.out.cell (World.block_lt_of_cell? w _ hw245_3)).trans hw245_3))⟩ (fun hHeld => ?_)
             clear hK K
             refine norm_ (a' := ?_) ?_ ?_
             rotate_left
             ·show Act.put _ (some 80) _ = _
              simp only [Act.put, sA, sB, sC, i64_w, i32_w]
              rfl
             refine one_ (i := 15) (N := some 81) (bs 17 65535) rfl rfl (one_of HT_.out (by kernel_rfl)) (by decide) (fun K hK => ?_)
             refine Kd.R_append_step Kd.bool (w0 := w) w.heap.size (by rfl) (.tmp 66) (.tmp 80) 50 4 (.bool false) 1 rfl Try.underlying50 info4 rfl (by decide) (by omega) u12 x12_2 (decide (t246 ≤ a2)) [.bool (decide (t246 ≤ a2))] (fun _ => True) (fun _ => False) rfl rfl ?aP (fun _ hk => hk.elim) ?aF ?aO ?aB ?aS ?aL ?_
             (case aP => exact rfl)
             (case aB => exact (by exact zb0 HB))
             (case aF => exact (fun _ _ => trivial))
             (case aO => exact (by exact zr0 HO_12))
             (case aS => exact (below_size (by exact zb0 HB)))
             (case aL => have := LMc40.out; omega)
             intro v248 w43 ho hb hg hat
             rw [← Ny247.out] at ho
             have n0_ := Aside0.mk (blk_grown (zk0 BK239) hg (Kd.R_ne HO_12.out BK239.out (by decide)))
             have n1_ := Aside0.mk (blk_grown (zk0 BK240) hg (Kd.R_ne HO_12.out BK240.out (by decide)))
             have n2_ := Aside0.mk (blk_grown (zk0 BK241) hg (Kd.R_ne HO_12.out BK241.out (by decide)))
             have n3_ := Aside0.mk (hb)
             have n4_ := Aside0.mk (ho)
             clear BK239
             clear BK240
             clear BK241
             clear HB
             clear HO_12
             have BK239 := n0_
             have BK240 := n1_
             have BK241 := n2_
             have HB := n3_
             have HO249 := n4_
             clear n0_ n1_ n2_ n3_ n4_
             clear ho hb hg hat
             refine hK.out _ _ ⟨(blk_cell BK239.out 0).trans rfl, (blk_cell BK239.out 1).trans rfl, (blk_cell BK239.out 2).trans rfl, ((HB.out.cell (World.block_lt_of_cell? w _ hw244_0)).trans hw244_0), ((HB.out.cell (World.block_lt_of_cell? w _ hw244_1)).trans hw244_1), ((HB.out.cell (World.block_lt_of_cell? w _ hw244_2)).trans hw244_2), ((HB.out.cell (World.block_lt_of_cell? w _ hw244_3)).trans hw244_3), ((HB.out.cell (World.block_lt_of_cell? w _ hw245_0)).trans hw245_0), ((HB.out.cell (World.block_lt_of_cell? w _ hw245_1)).trans hw245_1), ((HB.out.cell (World.block_lt_of_cell? w _ hw245_2)).trans hw245_2), ((HB.out.cell (World.block_lt_of_cell? w _ hw245_3)).trans hw245_3)⟩ (fun hHeld => ?_)
             clear hK K
             refine norm_ (a' := ?_) ?_ ?_
             rotate_left
             ·show Act.put _ (some 81) _ = _
              simp only [Act.put, sA, sB, sC, i64_w, i32_w]
              rfl
             refine pure_ (i := 16) (N := some 12) (v := ?_) (a' := ?_) (bs 17 131071) rfl rfl (any_of HT_.out (by kernel_rfl)) (fun _ _ _ h => h) (Or.inl ⟨by rfl, ?_⟩) ?_ ?_
             rotate_left
             ·intro w'
              go_simp
              with_reducible rfl
             rotate_left
             ·simp only [Act.put, sA, sB, sC, i64_w, i32_w]
              rfl
             refine done_ (done_of HT_.out (by kernel_rfl)) ?_
             try go_wp2
             first | go_roundg k2 | ((try subst hji36); go_roundg k2)
             case measure => have := HJ6.out; have := HK2.out; omega
             case rel => first | (exact ⟨(y247), (wrap64 (x63_2 + 1)), (by first | rfl | (simp; done) | (simp [*]; done)), H', ⟨by have := HJ6.out; have := HK2.out; omega⟩, ⟨by exact zr0 HO249⟩, ⟨by exact zk0 BK239⟩, ⟨by exact zk0 BK240⟩, ⟨by exact zk0 BK241⟩, ⟨by exact zb0 HB⟩⟩) | (exact ⟨(y247), (wrap64 (x63_2 + 1)), (by first | rfl | (simp; done) | (simp [*]; done)), H', ⟨by have := HJ6.out; have := HK2.out; omega⟩, ⟨by exact zr0 HO249⟩, ⟨by exact zk0 BK239⟩, ⟨by exact zk0 BK240⟩, ⟨by exact zk0 BK241⟩, ⟨by exact zb0 HB⟩⟩)
            ·rw [if_neg c40] at H
             exact absurd H (by simp)
           ·rw [if_neg c38] at H
            exact absurd H (by simp)
          ·rw [if_neg c37] at H
           exact absurd H (by simp)
         ·rw [if_neg c35] at H
          exact absurd H (by simp)
        ·rw [if_neg c34] at H
         exact absurd H (by simp)
       ·rw [if_neg c33] at H
        have c33b0 : decide (x63_2 < (l0_2.length : Int)) = false := decide_eq_false c33
        clear c33
        replace H := Option.bind_eq_some_iff.mp H
        obtain ⟨t250, A440, H⟩ := H
        replace H : (imageeditorref24_Flood.l1 k2 t250 (t250.length : Int) 0 a0_0 a0_1 ([] : List Int)) = some (r1, r2, r3, r4) := H
        have A44 := Aside0.mk A440
        clear A440
        have H' := Aside0.mk H
        clear H
        have hnb45 := NB239_240.out
        have hnc45 := NB240_239.out
        have hnb46 := NB239_241.out
        have hnc46 := NB241_239.out
        obtain ⟨hcz47_0, hcz47_1, hcz47_2, hfz47_0, hfz47_1, hfz47_2⟩ := zq3 BK239
        obtain ⟨Ao48, co48, eo48⟩ := Kd.R_slice HO_12.out
        subst eo48
        go_wp2_with (first | ((with_reducible refine gate_callee (f := 27) rfl ?_); refine goesL_ (some 90) rfl rfl Try.func27 (by kernel_rfl) rfl #[.int .i64 a0_0, .int .i64 a0_1, .int .i64 (wrap64 ((wrap64 (a1_1 * a0_0)) + a1_0)), .slice Ao48 x12_2.length co48, .bool a3] rfl (by (try simp only [List.map_toArray, List.map_cons, List.map_nil]); first | done | rfl | (simp only [List.length_drop, List.length_take]; rfl)) ?_; (with_reducible refine (imageeditorref24_reached.calls k2 a0_0 a0_1 (wrap64 ((wrap64 (a1_1 * a0_0)) + a1_0)) _ _ x12_2 a3 t250 _ ?side1 ?side2 A44.out).mono ?_); (case side1 => repeat (first | exact (Kd.R_reads' HO_12.out).2.2 | (with_reducible refine Kd.C_alloc ?_ _) | (with_reducible refine Kd.C_drewN ?_ _) | (with_reducible refine Kd.C_drew ?_))); (case side2 => exact (Kd.R_reads' HO_12.out).2.1); rintro e w49 ⟨v251, rfl, ho0, hb⟩; refine ⟨_, rfl, ?_⟩; have n0_ := Aside0.mk (Kd.R_elder' (by exact zr0 HO_12) (Kd.R_base ho0) hb); have n1_ := Aside0.mk (Kd.R_lower (Kd.R_new' ho0 (Kd.R_lt (by exact zr0 HO_12))) (below_size (by exact zb0 HB))); replace BK239 := zk BK239 hb; replace BK240 := zk BK240 hb; replace BK241 := zk BK241 hb; replace HB := zb HB hb; clear HO_12; have HO_12 := n0_; have HO252 := n1_; clear n0_ n1_; (try clear hb); (try clear hb2); (try clear hk); (try clear hi); (try clear ho0); obtain ⟨hcz50_0, hcz50_1, hcz50_2, hfz50_0, hfz50_1, hfz50_2⟩ := zq3 BK239) | ((with_reducible refine gate_dst (N := 15) rfl ?_); refine box_event ?hg (N := 15) ?hd (cs := #[.int .i64 0, .int .i64 0, .slice none 0 0]) (t := 29) ?hr ?_; (case hd => rfl); (case hg => rfl); (case hr => first | (go_simp; done) | (go_simp; rfl)); intro gb253 hg w51 hbox hb; have GW253 := zg HB hg; have GE253 := zg HB hg; have NB239_253 := zn BK239 hg; have NB253_239 := zn' BK239 hg; have NB240_253 := zn BK240 hg; have NB253_240 := zn' BK240 hg; have NB241_253 := zn BK241 hg; have NB253_241 := zn' BK241 hg; have n0_ := Aside0.mk (hbox); replace HO_12 := zr HO_12 hb; replace HO252 := zr HO252 hb; replace BK239 := zk BK239 hb; replace BK240 := zk BK240 hb; replace BK241 := zk BK241 hb; replace HB := zb HB hb; have BK253 := n0_; clear n0_; clear hb hbox hg; have hnb52 := NB253_239.out; have hnc52 := NB239_253.out; have hnb53 := NB253_240.out; have hnc53 := NB240_253.out; have hnb54 := NB253_241.out; have hnc54 := NB241_253.out; obtain ⟨hcz55_0, hcz55_1, hcz55_2, hfz55_0, hfz55_1, hfz55_2⟩ := zq3 BK253; obtain ⟨Ao56, co56, eo56⟩ := Kd.R_slice HO252.out; subst eo56))
        (try simp only [Act.put, sA, sB, sC])
        go_loopg [98] k2 (fun kq v98 w' => ∃ (x98_3 : Int) (x254002_3 : List Int) (u254002 : Value), v98 = .int .i64 x98_3 ∧ Aside0 (imageeditorref24_Flood.l1 kq t250 (t250.length : Int) x98_3 a0_0 a0_1 x254002_3 = some (r1, r2, r3, r4)) ∧ Aside0 (kq ≤ k2) ∧ Aside0 (Kd.R Kd.bool 4 w' w.heap.size (fun _ => True) (.slice Ao56 t250.length co56) t250) ∧ Aside0 (Kd.R (Kd.int .i64) 3 w' w.heap.size (fun _ => True) u254002 x254002_3) ∧ Aside0 (w'.heap[gb239]? = some (.cells #[.int .i64 a0_0, .int .i64 a0_1, (.slice A0_2 l0_2.length c0_2)] 24 (0, 0))) ∧ Aside0 (w'.heap[gb240]? = some (.cells #[.int .i64 a1_0, .int .i64 a1_1] 26 (0, 0))) ∧ Aside0 (w'.heap[gb241]? = some (.cells #[.int .i64 0, .int .i64 0, (.slice none 0 0)] 29 (0, 0))) ∧ Aside0 (w'.heap[gb253]? = some (.cells #[.int .i64 a0_0, .int .i64 a0_1, u254002] 29 (0, 0))) ∧ Aside0 (Below w.heap.size w w'))
        case atStart => exact ⟨(0), (([] : List Int)), (.slice none 0 0), (by first | rfl | (simp; done) | (simp [*]; done)), H', ⟨Nat.le_refl _⟩, ⟨by (with_reducible repeat (first | apply Kd.R_alloc | apply Kd.R_drewN | apply Kd.R_drew)); exact Kd.R_mono (Kd.R_far (p := ⟨gb253, 2, none⟩) (Kd.R_far (p := ⟨gb253, 1, none⟩) (Kd.R_far (p := ⟨gb253, 0, none⟩) (Kd.R_types HO252.out BK253.out (by decide)) (fun _ hk => hk.2) (.int .i64 a0_0)) (fun _ hk => hk.2) (.int .i64 a0_1)) (fun _ hk => hk.2) (.slice none 0 0)) (fun _ hk => trivial)⟩, ⟨by first | exact Kd.R_nil _ _ _ _ _ | exact Kd.N_nil _ _ _ _ _ | exact Kd.V_nil _ _ _ _ _ | exact Kd.Q_nil _ _ _ _ _ | exact Kd.S_nil _ _ _ _ _⟩, ⟨by exact zf BK239 NB239_253⟩, ⟨by exact zf BK240 NB240_253⟩, ⟨by exact zf BK241 NB241_253⟩, ⟨by exact zp BK253 rfl⟩, ⟨by exact zbo HB GE253⟩⟩
        case round =>
         clear H'
         try clear c1
         try clear c2
         try clear p2
         try clear q2
         try clear hx2
         try clear c3
         try clear q3
         try clear c4
         try clear c5
         try clear c6
         try clear c6b0
         try clear c6b1
         try clear p6
         try clear c10
         try clear c13
         try clear c13b0
         try clear c15
         try clear c15b0
         try clear c18
         try clear c18b0
         try clear c19
         try clear c21
         try clear c21b0
         try clear p24
         try clear q24
         try clear hx24
         try clear c26
         try clear c27
         try clear c28
         try clear c29
         try clear c33
         try clear c33b0
         try clear c34
         try clear c34b0
         try clear c35
         try clear c35b0
         try clear c37
         try clear c37b0
         try clear c38
         try clear c38b0
         try clear c40
         try clear c45
         try clear c46
         try clear c52
         try clear c53
         try clear c54
         try clear hcz11_0
         try clear hcz11_1
         try clear hcz11_2
         try clear hcz14_0
         try clear hcz14_1
         try clear hcz16_0
         try clear hcz16_1
         try clear hcz17_0
         try clear hcz17_1
         try clear hcz17_2
         try clear hcz19_0
         try clear hcz19_1
         try clear hcz20_0
         try clear hcz20_1
         try clear hcz20_2
         try clear hcz22_0
         try clear hcz22_1
         try clear hcz23_0
         try clear hcz23_1
         try clear hcz23_2
         try clear hcz25_0
         try clear hcz25_1
         try clear hcz26_0
         try clear hcz26_1
         try clear hcz26_2
         try clear hcz30_0
         try clear hcz30_1
         try clear hcz30_2
         try clear hcz31_0
         try clear hcz31_1
         try clear hcz32_0
         try clear hcz32_1
         try clear hcz32_2
         try clear hcz47_0
         try clear hcz47_1
         try clear hcz47_2
         try clear hcz50_0
         try clear hcz50_1
         try clear hcz50_2
         try clear hcz55_0
         try clear hcz55_1
         try clear hcz55_2
         try clear hfz11_0
         try clear hfz11_1
         try clear hfz11_2
         try clear hfz14_0
         try clear hfz14_1
         try clear hfz16_0
         try clear hfz16_1
         try clear hfz17_0
         try clear hfz17_1
         try clear hfz17_2
         try clear hfz19_0
         try clear hfz19_1
         try clear hfz20_0
         try clear hfz20_1
         try clear hfz20_2
         try clear hfz22_0
         try clear hfz22_1
         try clear hfz23_0
         try clear hfz23_1
         try clear hfz23_2
         try clear hfz25_0
         try clear hfz25_1
         try clear hfz26_0
         try clear hfz26_1
         try clear hfz26_2
         try clear hfz30_0
         try clear hfz30_1
         try clear hfz30_2
         try clear hfz31_0
         try clear hfz31_1
         try clear hfz32_0
         try clear hfz32_1
         try clear hfz32_2
         try clear hfz47_0
         try clear hfz47_1
         try clear hfz47_2
         try clear hfz50_0
         try clear hfz50_1
         try clear hfz50_2
         try clear hfz55_0
         try clear hfz55_1
         try clear hfz55_2
         try clear hx244_0
         try clear hx244_1
         try clear hx244_2
         try clear hx244_3
         try clear hx245_0
         try clear hx245_1
         try clear hx245_2
         try clear hx245_3
         try clear p2
         try clear p244
         try clear p245
         try clear p6
         try clear q2
         try clear q244
         try clear q245
         try clear q3
         obtain ⟨x98_3, x254002_3, u254002, rfl, HA, HK3, HO_14, HO_254002, BK239, BK240, BK241, BK253, HB⟩ := hrel
         cases gk with
         | zero => exact absurd HA.out (by simp [imageeditorref24_Flood.l1])
         | succ k3 =>
          have H := HA.out
          clear HA
          simp only [imageeditorref24_Flood.l1] at H
          by_cases c57 : x98_3 < (t250.length : Int)
          ·rw [if_pos c57] at H
           have c57b0 : decide (x98_3 < (t250.length : Int)) = true := decide_eq_true c57
           clear c57
           by_cases c58 : 0 ≤ x98_3
           ·rw [if_pos c58] at H
            have c58b0 : decide (0 ≤ x98_3) = true := decide_eq_true c58
            clear c58
            by_cases c59 : x98_3 < (t250.length : Int)
            ·rw [if_pos c59] at H
             have c59b0 : decide (x98_3 < (t250.length : Int)) = true := decide_eq_true c59
             clear c59
             obtain ⟨bq60, hbq60⟩ : ∃ b_ : Bool, b_ = (rdOf false t250 x98_3) := ⟨_, rfl⟩
             replace H : (if bq60 = true then (if x254002_3.length < 17592186044416 then (imageeditorref24_Flood.l1 k3 t250 (t250.length : Int) (wrap64 (x98_3 + 1)) a0_0 a0_1 (x254002_3 ++ [65535])) else (none)) else (if x254002_3.length < 17592186044416 then (imageeditorref24_Flood.l1 k3 t250 (t250.length : Int) (wrap64 (x98_3 + 1)) a0_0 a0_1 (x254002_3 ++ [0])) else (none))) = some (r1, r2, r3, r4) := by rw [← hbq60] at H; exact H
             have Nbq60 := Aside0.mk hbq60
             clear hbq60
             by_cases c61 : bq60 = true
             ·subst c61
              have H1 : (if x254002_3.length < 17592186044416 then (imageeditorref24_Flood.l1 k3 t250 (t250.length : Int) (wrap64 (x98_3 + 1)) a0_0 a0_1 (x254002_3 ++ [65535])) else (none)) = some (r1, r2, r3, r4) := by rw [if_pos rfl] at H; exact H
              clear H
              have H := H1
              clear H1
              by_cases c62 : x254002_3.length < 17592186044416
              ·rw [if_pos c62] at H
               have LMc62 := Aside0.mk c62
               clear c62
               obtain ⟨y255, hy255⟩ : ∃ y_ : List Int, y_ = (x254002_3 ++ [65535]) := ⟨_, rfl⟩
               replace H : (imageeditorref24_Flood.l1 k3 t250 (t250.length : Int) (wrap64 (x98_3 + 1)) a0_0 a0_1 y255) = some (r1, r2, r3, r4) := by first | (rw [hy255]; with_reducible exact H) | (have H2_ := (Option.bind_some _ _).symm.trans H; rw [hy255]; with_reducible exact H2_) | (have H2_ := (Option.bind_some _ _).symm.trans H; with_reducible exact H2_) | with_reducible exact H | (rw [hy255]; exact H) | exact H
               have Ny255 := Aside0.mk hy255
               clear hy255
               have H' := Aside0.mk H
               clear H
               have p254 : 0 ≤ (x98_3 : Int) := of_decide_eq_true (by first | (with_reducible assumption) | assumption)
               have q254 : x98_3 < (t250.length : Int) := of_decide_eq_true (by first | (with_reducible assumption) | assumption)
               obtain ⟨ad254, e254, hx254_0⟩ := Kd.at_bool (Kd.R_reads' HO_14.out).2.2 x98_3 p254 q254
               (try rw [← Nbq60.out] at hx254_0)
               cases e254
               replace p254 := eq_true p254
               replace q254 := eq_true q254
               have hnb63 := NB253_239.out
               have hnc63 := NB239_253.out
               have hnb64 := NB253_240.out
               have hnc64 := NB240_253.out
               have hnb65 := NB253_241.out
               have hnc65 := NB241_253.out
               obtain ⟨hcz66_0, hcz66_1, hcz66_2, hfz66_0, hfz66_1, hfz66_2⟩ := zq3 BK253
               go_wp2_with (first | ((with_reducible refine gate_builtin (b := .append) (xs := #[.tmp 106, .tmp 108]) rfl ?_); at_builtin; refine Kd.R_append (Kd.int .i64) (w0 := w) w.heap.size rfl (.tmp 106) (.tmp 108) 27 3 (.int .i64 0) 8 rfl Try.underlying27 info3 rfl (by decide) (by omega) u254002 x254002_3 65535 [.int .i64 65535] (fun _ => True) (fun _ => False) rfl rfl ?aP (fun _ hk => hk.elim) ?aF ?aO ?aB ?aS ?aL ?_; (case aP => exact rfl); (case aB => exact (by exact zb0 HB)); (case aF => exact (fun _ _ => trivial)); (case aO => exact (by exact zr0 HO_254002)); (case aS => exact (below_size (by exact zb0 HB))); (case aL => have := LMc62.out; omega); intro v256 w67 ho hb hg hat; rw [← Ny255.out] at ho; have n0_ := Aside0.mk (Kd.R_over' (by exact zr0 HO_14) (Kd.R_typed (by exact zr0 HO_254002)) (by decide) hg); have n1_ := Aside0.mk (blk_grown (zk0 BK239) hg (Kd.R_ne HO_254002.out BK239.out (by decide))); have n2_ := Aside0.mk (blk_grown (zk0 BK240) hg (Kd.R_ne HO_254002.out BK240.out (by decide))); have n3_ := Aside0.mk (blk_grown (zk0 BK241) hg (Kd.R_ne HO_254002.out BK241.out (by decide))); have n4_ := Aside0.mk (blk_grown (zk0 BK253) hg (Kd.R_ne HO_254002.out BK253.out (by decide))); have n5_ := Aside0.mk (hb); have n6_ := Aside0.mk (ho); clear HO_14; clear BK239; clear BK240; clear BK241; clear BK253; clear HB; clear HO_254002; have HO_14 := n0_; have BK239 := n1_; have BK240 := n2_; have BK241 := n3_; have BK253 := n4_; have HB := n5_; have HO257 := n6_; clear n0_ n1_ n2_ n3_ n4_ n5_ n6_; clear ho hb hg hat; obtain ⟨Ao68, co68, eo68⟩ := Kd.R_slice HO257.out; subst eo68; obtain ⟨hcz69_0, hcz69_1, hcz69_2, hfz69_0, hfz69_1, hfz69_2⟩ := zq3 BK253))
               go_roundg k3
               case measure => have := HJ6.out; have := HK2.out; have := HK3.out; omega
               case rel => exact ⟨(wrap64 (x98_3 + 1)), (y255), (.slice Ao68 y255.length co68), (by first | rfl | (simp; done) | (simp [*]; done)), H', ⟨by have := HJ6.out; have := HK2.out; have := HK3.out; omega⟩, ⟨by exact zro HO_14 BK253 (by decide)⟩, ⟨by exact zro HO257 BK253 (by decide)⟩, ⟨by exact zf BK239 NB239_253⟩, ⟨by exact zf BK240 NB240_253⟩, ⟨by exact zf BK241 NB241_253⟩, ⟨by exact zp BK253 rfl⟩, ⟨by exact zbo HB GE253⟩⟩
              ·rw [if_neg c62] at H
               exact absurd H (by simp)
             ·replace c61 := Bool.eq_false_iff.mpr c61
              subst c61
              have H1 : (if x254002_3.length < 17592186044416 then (imageeditorref24_Flood.l1 k3 t250 (t250.length : Int) (wrap64 (x98_3 + 1)) a0_0 a0_1 (x254002_3 ++ [0])) else (none)) = some (r1, r2, r3, r4) := by rw [if_neg (show ¬ (false = true) by decide)] at H; exact H
              clear H
              have H := H1
              clear H1
              by_cases c70 : x254002_3.length < 17592186044416
              ·rw [if_pos c70] at H
               have LMc70 := Aside0.mk c70
               clear c70
               obtain ⟨y258, hy258⟩ : ∃ y_ : List Int, y_ = (x254002_3 ++ [0]) := ⟨_, rfl⟩
               replace H : (imageeditorref24_Flood.l1 k3 t250 (t250.length : Int) (wrap64 (x98_3 + 1)) a0_0 a0_1 y258) = some (r1, r2, r3, r4) := by first | (rw [hy258]; with_reducible exact H) | (have H2_ := (Option.bind_some _ _).symm.trans H; rw [hy258]; with_reducible exact H2_) | (have H2_ := (Option.bind_some _ _).symm.trans H; with_reducible exact H2_) | with_reducible exact H | (rw [hy258]; exact H) | exact H
               have Ny258 := Aside0.mk hy258
               clear hy258
               have H' := Aside0.mk H
               clear H
               have p254 : 0 ≤ (x98_3 : Int) := of_decide_eq_true (by first | (with_reducible assumption) | assumption)
               have q254 : x98_3 < (t250.length : Int) := of_decide_eq_true (by first | (with_reducible assumption) | assumption)
               obtain ⟨ad254, e254, hx254_0⟩ := Kd.at_bool (Kd.R_reads' HO_14.out).2.2 x98_3 p254 q254
               (try rw [← Nbq60.out] at hx254_0)
               cases e254
               replace p254 := eq_true p254
               replace q254 := eq_true q254
               have hnb71 := NB253_239.out
               have hnc71 := NB239_253.out
               have hnb72 := NB253_240.out
               have hnc72 := NB240_253.out
               have hnb73 := NB253_241.out
               have hnc73 := NB241_253.out
               obtain ⟨hcz74_0, hcz74_1, hcz74_2, hfz74_0, hfz74_1, hfz74_2⟩ := zq3 BK253
               go_wp2_with (first | ((with_reducible refine gate_builtin (b := .append) (xs := #[.tmp 106, .tmp 108]) rfl ?_); at_builtin; refine Kd.R_append (Kd.int .i64) (w0 := w) w.heap.size rfl (.tmp 106) (.tmp 108) 27 3 (.int .i64 0) 8 rfl Try.underlying27 info3 rfl (by decide) (by omega) u254002 x254002_3 0 [.int .i64 0] (fun _ => True) (fun _ => False) rfl rfl ?aP (fun _ hk => hk.elim) ?aF ?aO ?aB ?aS ?aL ?_; (case aP => exact rfl); (case aB => exact (by exact zb0 HB)); (case aF => exact (fun _ _ => trivial)); (case aO => exact (by exact zr0 HO_254002)); (case aS => exact (below_size (by exact zb0 HB))); (case aL => have := LMc70.out; omega); intro v259 w75 ho hb hg hat; rw [← Ny258.out] at ho; have n0_ := Aside0.mk (Kd.R_over' (by exact zr0 HO_14) (Kd.R_typed (by exact zr0 HO_254002)) (by decide) hg); have n1_ := Aside0.mk (blk_grown (zk0 BK239) hg (Kd.R_ne HO_254002.out BK239.out (by decide))); have n2_ := Aside0.mk (blk_grown (zk0 BK240) hg (Kd.R_ne HO_254002.out BK240.out (by decide))); have n3_ := Aside0.mk (blk_grown (zk0 BK241) hg (Kd.R_ne HO_254002.out BK241.out (by decide))); have n4_ := Aside0.mk (blk_grown (zk0 BK253) hg (Kd.R_ne HO_254002.out BK253.out (by decide))); have n5_ := Aside0.mk (hb); have n6_ := Aside0.mk (ho); clear HO_14; clear BK239; clear BK240; clear BK241; clear BK253; clear HB; clear HO_254002; have HO_14 := n0_; have BK239 := n1_; have BK240 := n2_; have BK241 := n3_; have BK253 := n4_; have HB := n5_; have HO260 := n6_; clear n0_ n1_ n2_ n3_ n4_ n5_ n6_; clear ho hb hg hat; obtain ⟨Ao76, co76, eo76⟩ := Kd.R_slice HO260.out; subst eo76; obtain ⟨hcz77_0, hcz77_1, hcz77_2, hfz77_0, hfz77_1, hfz77_2⟩ := zq3 BK253))
               go_roundg k3
               case measure => have := HJ6.out; have := HK2.out; have := HK3.out; omega
               case rel => exact ⟨(wrap64 (x98_3 + 1)), (y258), (.slice Ao76 y258.length co76), (by first | rfl | (simp; done) | (simp [*]; done)), H', ⟨by have := HJ6.out; have := HK2.out; have := HK3.out; omega⟩, ⟨by exact zro HO_14 BK253 (by decide)⟩, ⟨by exact zro HO260 BK253 (by decide)⟩, ⟨by exact zf BK239 NB239_253⟩, ⟨by exact zf BK240 NB240_253⟩, ⟨by exact zf BK241 NB241_253⟩, ⟨by exact zp BK253 rfl⟩, ⟨by exact zbo HB GE253⟩⟩
              ·rw [if_neg c70] at H
               exact absurd H (by simp)
            ·rw [if_neg c59] at H
             exact absurd H (by simp)
           ·rw [if_neg c58] at H
            exact absurd H (by simp)
          ·rw [if_neg c57] at H
           have c57b0 : decide (x98_3 < (t250.length : Int)) = false := decide_eq_false c57
           clear c57
           simp only [Option.some.injEq, Prod.mk.injEq] at H
           obtain ⟨rfl, rfl, rfl, rfl⟩ := H
           have hnb78 := NB253_239.out
           have hnc78 := NB239_253.out
           have hnb79 := NB253_240.out
           have hnc79 := NB240_253.out
           have hnb80 := NB253_241.out
           have hnc80 := NB241_253.out
           obtain ⟨hcz81_0, hcz81_1, hcz81_2, hfz81_0, hfz81_1, hfz81_2⟩ := zq3 BK253
           have hnb82 := NB241_239.out
           have hnc82 := NB239_241.out
           have hnb83 := NB241_240.out
           have hnc83 := NB240_241.out
           obtain ⟨hcz84_0, hcz84_1, hcz84_2, hfz84_0, hfz84_1, hfz84_2⟩ := zq3 BK241
           obtain ⟨Ao85, co85, eo85⟩ := Kd.R_slice HO_254002.out
           subst eo85
           go_wp2
           refine bodyPost_ret (results_ct rfl _ _ gb241 29 #[.int .i64 a0_0, .int .i64 a0_1, .slice Ao85 x254002_3.length co85] (0, 0) _ rfl (by exact zp BK241 rfl) Try.underlying29 rfl (by kernel_rfl)) rfl ?_
           exact ⟨_, by first | rfl | (simp [errW_none, errW_some] <;> rfl) | (simp [*, errW_none, errW_some] <;> rfl), by exact zro HO_254002 BK241 (by decide), by exact zbo HB GE241⟩
 ·rw [if_neg c6] at H
  have c6b0 : (t242 == 0) = false := beq_eq_false_iff_ne.mpr c6
  have c6b1 : (t242 != 0) = true := bne_iff_ne.mpr c6
  simp only [Option.some.injEq, Prod.mk.injEq] at H
  obtain ⟨rfl, rfl, rfl, rfl⟩ := H
  go_enter Try.func10, Try.ntmps10
  go_wp2_with (first | ((with_reducible refine gate_dst (N := 4) rfl ?_); refine box_event ?hg (N := 4) ?hd (cs := #[.int .i64 a0_0, .int .i64 a0_1, .slice A0_2 l0_2.length c0_2]) (t := 24) ?hr ?_; (case hd => rfl); (case hg => rfl); (case hr => first | (go_simp; done) | (go_simp; rfl)); intro gb239 hg w86 hbox hb; have GW239 := zg HB hg; have GE239 := zg HB hg; have n0_ := Aside0.mk (hbox); replace HB := zb HB hb; have BK239 := n0_; clear n0_; clear hb hbox hg) | ((with_reducible refine gate_dst (N := 5) rfl ?_); refine box_event ?hg (N := 5) ?hd (cs := #[.int .i64 a1_0, .int .i64 a1_1]) (t := 26) ?hr ?_; (case hd => rfl); (case hg => rfl); (case hr => first | (go_simp; done) | (go_simp; rfl)); intro gb240 hg w87 hbox hb; have GW240 := zg HB hg; have GE240 := zg HB hg; have NB239_240 := zn BK239 hg; have NB240_239 := zn' BK239 hg; have n0_ := Aside0.mk (hbox); replace BK239 := zk BK239 hb; replace HB := zb HB hb; have BK240 := n0_; clear n0_; clear hb hbox hg) | ((with_reducible refine gate_dst (N := 8) rfl ?_); refine box_event ?hg (N := 8) ?hd (cs := #[.int .i64 0, .int .i64 0, .slice none 0 0]) (t := 29) ?hr ?_; (case hd => rfl); (case hg => rfl); (case hr => first | (go_simp; done) | (go_simp; rfl)); intro gb241 hg w88 hbox hb; have GW241 := zg HB hg; have GE241 := zg HB hg; have NB239_241 := zn BK239 hg; have NB241_239 := zn' BK239 hg; have NB240_241 := zn BK240 hg; have NB241_240 := zn' BK240 hg; have n0_ := Aside0.mk (hbox); replace BK239 := zk BK239 hb; replace BK240 := zk BK240 hb; replace HB := zb HB hb; have BK241 := n0_; clear n0_; clear hb hbox hg; have hnb89 := NB239_240.out; have hnc89 := NB240_239.out; have hnb90 := NB239_241.out; have hnc90 := NB241_239.out; obtain ⟨hcz91_0, hcz91_1, hcz91_2, hfz91_0, hfz91_1, hfz91_2⟩ := zq3 BK239) | ((with_reducible refine gate_callee (f := 19) rfl ?_); refine goesL_ (some 19) rfl rfl Try.func19 (by kernel_rfl) rfl #[.agg #[.int .i64 a0_0, .int .i64 a0_1, .slice A0_2 l0_2.length c0_2]] rfl (by (try simp only [List.map_toArray, List.map_cons, List.map_nil]); first | done | rfl | (simp only [List.length_drop, List.length_take]; rfl)) ?_; (with_reducible refine (imageeditorref11_Check.calls k a0_0 a0_1 _ _ l0_2 t242 _ ?side1 ?side2 A5.out).mono ?_); (case side1 => repeat (first | exact (Kd.C_below HR0_2.out HB.out) | (with_reducible refine Kd.C_alloc ?_ _) | (with_reducible refine Kd.C_drewN ?_ _) | (with_reducible refine Kd.C_drew ?_))); (case side2 => exact HC0_2.out); rintro e w92 ⟨rfl, hb⟩; refine ⟨_, rfl, ?_⟩; replace BK239 := zk BK239 hb; replace BK240 := zk BK240 hb; replace BK241 := zk BK241 hb; replace HB := zb HB hb; (try clear hb); (try clear hb2); (try clear hk); (try clear hi); have hnb93 := NB241_240.out; have hnc93 := NB240_241.out; obtain ⟨hcz94_0, hcz94_1, hcz94_2, hfz94_0, hfz94_1, hfz94_2⟩ := zq3 BK241))
  refine bodyPost_ret (results_ct rfl _ _ gb241 29 #[.int .i64 0, .int .i64 0, .slice none 0 0] (0, 0) _ rfl (by exact zp BK241 rfl) Try.underlying29 rfl (by kernel_rfl)) rfl ?_
  exact ⟨_, by first | rfl | (simp [errW_none, errW_some] <;> rfl) | (simp [*, errW_none, errW_some] <;> rfl), by first | exact Kd.R_nil _ _ _ _ _ | exact Kd.N_nil _ _ _ _ _ | exact Kd.V_nil _ _ _ _ _ | exact Kd.Q_nil _ _ _ _ _ | exact Kd.S_nil _ _ _ _ _, by exact zbo HB GE241⟩

/-! ### imageeditorlaw24_WandFloods: function 3 -/
def imageeditorlaw24_WandFloods.f (k : Nat) (a0_0 : Int) (a0_1 : Int) (l0_2 : List (S37)) (a1_0 : Int) (a1_1 : Int) (a2 : Int) (a3 : Bool) : Option (Bool) := (wand_Flood.f k a0_0 a0_1 l0_2 a1_0 a1_1 a2 a3).bind fun bt489 => ((imageeditorref24_Flood.f k a0_0 a0_1 l0_2 a1_0 a1_1 a2 a3).bind fun bt496 => ((imageeditorlaw24_same.f k bt489.1 bt489.2.1 bt489.2.2.1 bt496.1 bt496.2.1 bt496.2.2.1).bind fun t503 => (if t503 = true then (if bt489.2.2.2 = bt496.2.2.2 then ((imageeditorlaw24_awake.f k).bind fun t504 => (some t504)) else (some false)) else (some false))))
theorem imageeditorlaw24_WandFloods.mono : ∀ a0 a1 a2 a3 a4 a5 a6 k, LeO (imageeditorlaw24_WandFloods.f k a0 a1 a2 a3 a4 a5 a6) (imageeditorlaw24_WandFloods.f (k + 1) a0 a1 a2 a3 a4 a5 a6) := by
 intro a0 a1 a2 a3 a4 a5 a6 k
 unfold imageeditorlaw24_WandFloods.f
 repeat' first
   | (with_reducible exact imageeditorlaw24_awake.mono _)
   | (with_reducible exact imageeditorlaw24_same.mono _ _ _ _ _ _ _)
   | (with_reducible exact imageeditorref24_Flood.mono _ _ _ _ _ _ _ _)
   | (with_reducible exact wand_Flood.mono _ _ _ _ _ _ _ _)
   | (with_reducible exact LeO.refl _)
   | (with_reducible exact LeO.none _)
   | (with_reducible refine LeO.ite ?_ ?_)
   | (with_reducible refine LeO.bind ?_ (fun _ => ?_))
   | exact imageeditorlaw24_awake.mono _
   | exact imageeditorlaw24_same.mono _ _ _ _ _ _ _
   | exact imageeditorref24_Flood.mono _ _ _ _ _ _ _ _
   | exact wand_Flood.mono _ _ _ _ _ _ _ _
   | exact LeO.none _
   | refine LeO.ite ?_ ?_
   | refine LeO.bind ?_ (fun _ => ?_)
set_option maxHeartbeats 8000000 in
set_option maxRecDepth 100000 in
theorem imageeditorlaw24_WandFloods.callsT (k : Nat) (a0_0 : Int) (a0_1 : Int) (A0_2 : Option Addr) (c0_2 : Nat) (l0_2 : List (S37)) (a1_0 : Int) (a1_1 : Int) (a2 : Int) (a3 : Bool) (r : Bool) (w : World) (hr0_2 : Kd.C k37 w A0_2 l0_2.length l0_2) (hc0_2 : l0_2.length ≤ c0_2) (hT : r = true) (h : imageeditorlaw24_WandFloods.f k a0_0 a0_1 l0_2 a1_0 a1_1 a2 a3 = some r) :
  Calls Try.prog 3 #[.agg #[.int .i64 a0_0, .int .i64 a0_1, .slice A0_2 l0_2.length c0_2], .agg #[.int .i64 a1_0, .int .i64 a1_1], .int .i64 a2, .bool a3] w fun e w' => e = .returned (.bool r) ∧ Below w.heap.size w w' := by
 have hu24 := Try.underlying24
 have hu26 := Try.underlying26
 have hu29 := Try.underlying29
 have HT := Aside0.mk hT
 clear hT
 have HR0_2 := Aside0.mk hr0_2
 have HC0_2 := Aside0.mk hc0_2
 clear hr0_2 hc0_2
 have HB := Aside0.mk (Below.refl w.heap.size w)
 have H : ((wand_Flood.f k a0_0 a0_1 l0_2 a1_0 a1_1 a2 a3).bind fun bt489 => ((imageeditorref24_Flood.f k a0_0 a0_1 l0_2 a1_0 a1_1 a2 a3).bind fun bt496 => ((imageeditorlaw24_same.f k bt489.1 bt489.2.1 bt489.2.2.1 bt496.1 bt496.2.1 bt496.2.2.1).bind fun t503 => (if t503 = true then (if bt489.2.2.2 = bt496.2.2.2 then ((imageeditorlaw24_awake.f k).bind fun t504 => (some t504)) else (some false)) else (some false))))) = some r := h
 clear h
 replace H := Option.bind_eq_some_iff.mp H
 obtain ⟨⟨t489, t490, t491, t494⟩, A50, H⟩ := H
 replace H : ((imageeditorref24_Flood.f k a0_0 a0_1 l0_2 a1_0 a1_1 a2 a3).bind fun bt496 => ((imageeditorlaw24_same.f k t489 t490 t491 bt496.1 bt496.2.1 bt496.2.2.1).bind fun t503 => (if t503 = true then (if t494 = bt496.2.2.2 then ((imageeditorlaw24_awake.f k).bind fun t504 => (some t504)) else (some false)) else (some false)))) = some r := H
 have A5 := Aside0.mk A50
 clear A50
 replace H := Option.bind_eq_some_iff.mp H
 obtain ⟨⟨t496, t497, t498, t501⟩, A60, H⟩ := H
 replace H : ((imageeditorlaw24_same.f k t489 t490 t491 t496 t497 t498).bind fun t503 => (if t503 = true then (if t494 = t501 then ((imageeditorlaw24_awake.f k).bind fun t504 => (some t504)) else (some false)) else (some false))) = some r := H
 have A6 := Aside0.mk A60
 clear A60
 replace H := Option.bind_eq_some_iff.mp H
 obtain ⟨t503, A70, H⟩ := H
 replace H : (if t503 = true then (if t494 = t501 then ((imageeditorlaw24_awake.f k).bind fun t504 => (some t504)) else (some false)) else (some false)) = some r := H
 have A7 := Aside0.mk A70
 clear A70
 by_cases c8 : t503 = true
 ·subst c8
  have H1 : (if t494 = t501 then ((imageeditorlaw24_awake.f k).bind fun t504 => (some t504)) else (some false)) = some r := by rw [if_pos rfl] at H; exact H
  clear H
  have H := H1
  clear H1
  by_cases c9 : t494 = t501
  ·rw [if_pos c9] at H
   have c9b0 : (t494 == t501) = true := beq_iff_eq.mpr c9
   have c9b1 : (t494 != t501) = false := bne_eq_false_iff_eq.mpr c9
   clear c9
   replace H := Option.bind_eq_some_iff.mp H
   obtain ⟨t504, A100, H⟩ := H
   replace H : (some t504) = some r := H
   have A10 := Aside0.mk A100
   clear A100
   as_aux_lemma =>
    obtain rfl := Option.some.inj H
    go_enter Try.func3, Try.ntmps3
    go_wp2_with (first | ((with_reducible refine gate_dst (N := 4) rfl ?_); refine box_event ?hg (N := 4) ?hd (cs := #[.int .i64 a0_0, .int .i64 a0_1, .slice A0_2 l0_2.length c0_2]) (t := 24) ?hr ?_; (case hd => rfl); (case hg => rfl); (case hr => first | (go_simp; done) | (go_simp; rfl)); intro gb487 hg w11 hbox hb; have GW487 := zg HB hg; have GE487 := zg HB hg; have n0_ := Aside0.mk (hbox); replace HB := zb HB hb; have BK487 := n0_; clear n0_; clear hb hbox hg) | ((with_reducible refine gate_dst (N := 5) rfl ?_); refine box_event ?hg (N := 5) ?hd (cs := #[.int .i64 a1_0, .int .i64 a1_1]) (t := 26) ?hr ?_; (case hd => rfl); (case hg => rfl); (case hr => first | (go_simp; done) | (go_simp; rfl)); intro gb488 hg w12 hbox hb; have GW488 := zg HB hg; have GE488 := zg HB hg; have NB487_488 := zn BK487 hg; have NB488_487 := zn' BK487 hg; have n0_ := Aside0.mk (hbox); replace BK487 := zk BK487 hb; replace HB := zb HB hb; have BK488 := n0_; clear n0_; clear hb hbox hg; have hnb13 := NB487_488.out; have hnc13 := NB488_487.out; obtain ⟨hcz14_0, hcz14_1, hcz14_2, hfz14_0, hfz14_1, hfz14_2⟩ := zq3 BK487; obtain ⟨hcz15_0, hcz15_1, hfz15_0, hfz15_1⟩ := zq2 BK488) | ((with_reducible refine gate_callee (f := 9) rfl ?_); refine goesL_ (some 18) rfl rfl Try.func9 (by kernel_rfl) rfl #[.agg #[.int .i64 a0_0, .int .i64 a0_1, .slice A0_2 l0_2.length c0_2], .agg #[.int .i64 a1_0, .int .i64 a1_1], .int .i64 a2, .bool a3] rfl (by (try simp only [List.map_toArray, List.map_cons, List.map_nil]); first | done | rfl | (simp only [List.length_drop, List.length_take]; rfl)) ?_; (with_reducible refine (wand_Flood.calls k a0_0 a0_1 _ _ l0_2 a1_0 a1_1 a2 a3 t489 t490 t491 t494 _ ?side1 ?side2 A5.out).mono ?_); (case side1 => repeat (first | exact (Kd.C_below HR0_2.out HB.out) | (with_reducible refine Kd.C_alloc ?_ _) | (with_reducible refine Kd.C_drewN ?_ _) | (with_reducible refine Kd.C_drew ?_))); (case side2 => exact HC0_2.out); rintro e w16 ⟨v492, rfl, ho0, hb⟩; refine ⟨_, rfl, ?_⟩; have HO493 := zl HB ho0; replace BK487 := zk BK487 hb; replace BK488 := zk BK488 hb; replace HB := zb HB hb; (try clear hb); (try clear hb2); (try clear hk); (try clear hi); (try clear ho0)) | ((with_reducible refine gate_dst (N := 9) rfl ?_); refine box_event ?hg (N := 9) ?hd (cs := #[.int .i64 0, .int .i64 0, .slice none 0 0]) (t := 29) ?hr ?_; (case hd => rfl); (case hg => rfl); (case hr => first | (go_simp; done) | (go_simp; rfl)); intro gb495 hg w17 hbox hb; have GW495 := zg HB hg; have GE495 := zg HB hg; have NB487_495 := zn BK487 hg; have NB495_487 := zn' BK487 hg; have NB488_495 := zn BK488 hg; have NB495_488 := zn' BK488 hg; have n0_ := Aside0.mk (hbox); replace HO493 := zr HO493 hb; replace BK487 := zk BK487 hb; replace BK488 := zk BK488 hb; replace HB := zb HB hb; have BK495 := n0_; clear n0_; clear hb hbox hg; have hnb18 := NB495_487.out; have hnc18 := NB487_495.out; have hnb19 := NB495_488.out; have hnc19 := NB488_495.out; obtain ⟨hcz20_0, hcz20_1, hcz20_2, hfz20_0, hfz20_1, hfz20_2⟩ := zq3 BK495; obtain ⟨Ao21, co21, eo21⟩ := Kd.R_slice HO493.out; subst eo21; obtain ⟨hcz22_0, hcz22_1, hcz22_2, hfz22_0, hfz22_1, hfz22_2⟩ := zq3 BK487; obtain ⟨hcz23_0, hcz23_1, hfz23_0, hfz23_1⟩ := zq2 BK488) | ((with_reducible refine gate_callee (f := 10) rfl ?_); refine goesL_ (some 26) rfl rfl Try.func10 (by kernel_rfl) rfl #[.agg #[.int .i64 a0_0, .int .i64 a0_1, .slice A0_2 l0_2.length c0_2], .agg #[.int .i64 a1_0, .int .i64 a1_1], .int .i64 a2, .bool a3] rfl (by (try simp only [List.map_toArray, List.map_cons, List.map_nil]); first | done | rfl | (simp only [List.length_drop, List.length_take]; rfl)) ?_; (with_reducible refine (imageeditorref24_Flood.calls k a0_0 a0_1 _ _ l0_2 a1_0 a1_1 a2 a3 t496 t497 t498 t501 _ ?side1 ?side2 A6.out).mono ?_); (case side1 => exact Kd.C_below HR0_2.out (by exact zbo HB GE495)); (case side2 => exact HC0_2.out); rintro e w24 ⟨v499, rfl, ho0, hb⟩; refine ⟨_, rfl, ?_⟩; have n0_ := Aside0.mk (Kd.R_below (by exact zro HO493 BK495 (by decide)) hb); have n1_ := Aside0.mk (Kd.R_lower ho0 (below_size (by exact zbo HB GE495))); have n2_ := Aside0.mk (blk_below (g := gb495) (o := .cells #[.int .i64 t489, .int .i64 t490, .slice Ao21 t491.length co21] 29 (0, 0)) (by exact zp BK495 rfl) hb); have n3_ := Aside0.mk (below_step (by exact zbo HB GE495) hb); replace BK487 := zfk BK487 NB487_495 hb; replace BK488 := zfk BK488 NB488_495 hb; clear HO493; clear BK495; clear HB; have HO493 := n0_; have HO500 := n1_; have BK495 := n2_; have HB := n3_; clear n0_ n1_ n2_ n3_; (try clear hb); (try clear hb2); (try clear hk); (try clear hi); (try clear ho0); (try clear BK487); (try clear BK488)) | ((with_reducible refine gate_dst (N := 11) rfl ?_); refine box_event ?hg (N := 11) ?hd (cs := #[.int .i64 0, .int .i64 0, .slice none 0 0]) (t := 29) ?hr ?_; (case hd => rfl); (case hg => rfl); (case hr => first | (go_simp; done) | (go_simp; rfl)); intro gb502 hg w25 hbox hb; have GW502 := zg HB hg; have GE502 := zg HB hg; have NB495_502 := zn BK495 hg; have NB502_495 := zn' BK495 hg; have n0_ := Aside0.mk (hbox); replace HO493 := zr HO493 hb; replace HO500 := zr HO500 hb; replace BK495 := zk BK495 hb; replace HB := zb HB hb; have BK502 := n0_; clear n0_; clear hb hbox hg; have hnb26 := NB502_495.out; have hnc26 := NB495_502.out; obtain ⟨hcz27_0, hcz27_1, hcz27_2, hfz27_0, hfz27_1, hfz27_2⟩ := zq3 BK502; obtain ⟨Ao28, co28, eo28⟩ := Kd.R_slice HO500.out; subst eo28; obtain ⟨hcz29_0, hcz29_1, hcz29_2, hfz29_0, hfz29_1, hfz29_2⟩ := zq3 BK495) | ((with_reducible refine gate_callee (f := 11) rfl ?_); refine goesL_ (some 31) rfl rfl Try.func11 (by kernel_rfl) rfl #[.agg #[.int .i64 t489, .int .i64 t490, .slice Ao21 t491.length co21], .agg #[.int .i64 t496, .int .i64 t497, .slice Ao28 t498.length co28]] rfl (by (try simp only [List.map_toArray, List.map_cons, List.map_nil]); first | done | rfl | (simp only [List.length_drop, List.length_take]; rfl)) ?_; (with_reducible refine (imageeditorlaw24_same.calls k t489 t490 _ _ t491 t496 t497 _ _ t498 true _ ?side1 ?side2 ?side3 ?side4 A7.out).mono ?_); (case side1 => refine (Kd.R_reads' (e := 3) (base := w.heap.size) (ok := fun k_ => True) (n := t491.length) (c := co21) ?_).2.2; exact (by exact zro HO493 BK502 (by decide))); (case side2 => exact (Kd.R_reads' HO493.out).2.1); (case side3 => refine (Kd.R_reads' (e := 3) (base := w.heap.size) (ok := fun k_ => True) (n := t498.length) (c := co28) ?_).2.2; exact (by exact zro HO500 BK502 (by decide))); (case side4 => exact (Kd.R_reads' HO500.out).2.1); rintro e w30 ⟨rfl, hb⟩; refine ⟨_, rfl, ?_⟩; have n0_ := Aside0.mk (Kd.R_below (by exact zro HO493 BK502 (by decide)) hb); have n1_ := Aside0.mk (Kd.R_below (by exact zro HO500 BK502 (by decide)) hb); have n2_ := Aside0.mk (blk_below (g := gb502) (o := .cells #[.int .i64 t496, .int .i64 t497, .slice Ao28 t498.length co28] 29 (0, 0)) (by exact zp BK502 rfl) hb); have n3_ := Aside0.mk (below_step (by exact zbo HB GE502) hb); replace BK495 := zfk BK495 NB495_502 hb; clear HO493; clear HO500; clear BK502; clear HB; have HO493 := n0_; have HO500 := n1_; have BK502 := n2_; have HB := n3_; clear n0_ n1_ n2_ n3_; (try clear hb); (try clear hb2); (try clear hk); (try clear hi); (try clear HO493); (try clear BK495); (try clear HO500); (try clear BK502)) | (go_at_call 12; (with_reducible refine (imageeditorlaw24_awake.calls k  t504 _ A10.out).mono ?_); rintro e w31 ⟨rfl, hb⟩; replace HB := zb HB hb; (try clear hb); (try clear hb2); (try clear hk); (try clear hi)))
    go_ret
    exact ⟨by first | rfl | (simp [errW_none, errW_some] <;> rfl) | (simp [*, errW_none, errW_some] <;> rfl), by exact zb0 HB⟩
  ·rw [if_neg c9] at H
   have c9b0 : (t494 == t501) = false := beq_eq_false_iff_ne.mpr c9
   have c9b1 : (t494 != t501) = true := bne_iff_ne.mpr c9
   as_aux_lemma =>
    exact absurd HT.out (by rw [← Option.some.inj H]; decide)
 ·replace c8 := Bool.eq_false_iff.mpr c8
  subst c8
  have H1 : (some false) = some r := by rw [if_neg (show ¬ (false = true) by decide)] at H; exact H
  clear H
  have H := H1
  clear H1
  as_aux_lemma =>
   exact absurd HT.out (by rw [← Option.some.inj H]; decide)

end Go.Proofs.Ytmmncannibnklaa.G
