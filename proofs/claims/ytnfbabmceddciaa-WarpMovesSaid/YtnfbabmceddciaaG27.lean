/- Contracts of functions of the program, each as it is called: what it computes (.f), that it computes no less with more rounds (.mono), and that a call returns just that (.calls). No conditions but those that each contract names. Written by a program of this session (wip/gx.py over the kit's print). -/
import Derived.Test.YtnfbabmceddciaaG0
import Derived.Test.YtnfbabmceddciaaG9
import Derived.Test.YtnfbabmceddciaaG12
import Derived.Test.YtnfbabmceddciaaG13
import Derived.Test.YtnfbabmceddciaaG26
namespace Go.Proofs.Ytnfbabmceddciaa.G
open Go.RowKit Go.Proofs.YtnfbabmceddciaaW.PrintWords Go.Proofs.YtnfbabmceddciaaW.PrintLast Go.Proofs.YtnfbabmceddciaaW.PrintMore
attribute [local go_sem] max2_int min2_int max_two min_two max_three min_three max_four min_four max_five min_five   -- for this text's walks alone
set_option linter.unusedVariables false
set_option linter.unusedSimpArgs false


attribute [local go_sem high] eqA48
/-! ### imageeditorlaw15_WarpMoves: function 7 -/
mutual
def imageeditorlaw15_WarpMoves.j0 : Nat → Int → Int → Int → Bool → Int → Int → List (S48) → Option (Bool)
 | 0, _, _, _, _, _, _, _ => none
 | k + 1, x1, x2, x3, x49, x754000, x754001, x754002 => if x49 = true then ((imageeditorlaw15_awake.f k).bind fun t755 => (some t755)) else ((warp_Draw.f k x754000 x754001 x754002 0 0 0 0 x754000 x754001 2 2 3 (([(⟨wrap64 (x2 * 65536), wrap64 (x3 * 65536)⟩ : S28), (⟨wrap64 (x2 * 65536), wrap64 (x3 * 65536)⟩ : S28), (⟨wrap64 (x2 * 65536), wrap64 (x3 * 65536)⟩ : S28), (⟨wrap64 (x2 * 65536), wrap64 (x3 * 65536)⟩ : S28)] : List (S28))) x1 0 0 x754000 x754001).bind fun bt762 => (if bt762.2.2.2 = 0 then (if bt762.1 = x754000 then (if bt762.2.1 = x754001 then (imageeditorlaw15_WarpMoves.j1 k x2 x3 ((bt762.2.2.1.length : Int) != (x754002.length : Int)) x754000 x754001 x754002 bt762.1 bt762.2.1 bt762.2.2.1) else (imageeditorlaw15_WarpMoves.j1 k x2 x3 true x754000 x754001 x754002 bt762.1 bt762.2.1 bt762.2.2.1)) else (imageeditorlaw15_WarpMoves.j1 k x2 x3 true x754000 x754001 x754002 bt762.1 bt762.2.1 bt762.2.2.1)) else (imageeditorlaw15_WarpMoves.j1 k x2 x3 true x754000 x754001 x754002 bt762.1 bt762.2.1 bt762.2.2.1)))
def imageeditorlaw15_WarpMoves.j1 : Nat → Int → Int → Bool → Int → Int → List (S48) → Int → Int → List (S48) → Option (Bool)
 | 0, _, _, _, _, _, _, _, _, _ => none
 | k + 1, x2, x3, x101, x754000, x754001, x754002, x769000, x769001, x769002 => if x101 = true then (some false) else (imageeditorlaw15_WarpMoves.l0 k x2 x3 x754001 0 x754000 x754001 x754002 x769000 x769001 x769002)
def imageeditorlaw15_WarpMoves.l0 : Nat → Int → Int → Int → Int → Int → Int → List (S48) → Int → Int → List (S48) → Option (Bool)
 | 0, _, _, _, _, _, _, _, _, _, _ => none
 | k + 1, x2, x3, x103, x104, x754000, x754001, x754002, x769000, x769001, x769002 => if x104 < x103 then (imageeditorlaw15_WarpMoves.l1 k x2 x3 x104 x103 x104 x754000 0 x754000 x754001 x754002 x769000 x769001 x769002) else ((imageeditorlaw15_awake.f k).bind fun t769 => (some t769))
def imageeditorlaw15_WarpMoves.l1 : Nat → Int → Int → Int → Int → Int → Int → Int → Int → Int → List (S48) → Int → Int → List (S48) → Option (Bool)
 | 0, _, _, _, _, _, _, _, _, _, _, _, _, _ => none
 | k + 1, x2, x3, x14, x103, x104, x108, x109, x754000, x754001, x754002, x769000, x769001, x769002 => if x109 < x108 then ((raster_Edge.f k x754000 x754001 x754002 (wrap64 (x109 + x2)) (wrap64 (x14 + x3))).bind fun bt770 => (if bt770.2.2.2 = 0 then (if 0 ≤ (wrap64 ((wrap64 (x14 * x754000)) + x109)) then (if (wrap64 ((wrap64 (x14 * x754000)) + x109)) < (x769002.length : Int) then (if (!(((rd_T48 x769002 (wrap64 ((wrap64 (x14 * x754000)) + x109))).f0) == 0) || (!(((rd_T48 x769002 (wrap64 ((wrap64 (x14 * x754000)) + x109))).f1) == 0) || (!(((rd_T48 x769002 (wrap64 ((wrap64 (x14 * x754000)) + x109))).f2) == 0) || (!(((rd_T48 x769002 (wrap64 ((wrap64 (x14 * x754000)) + x109))).f3) == 0))))) = true then (some false) else (imageeditorlaw15_WarpMoves.l1 k x2 x3 x14 x103 x104 x108 (wrap64 (x109 + 1)) x754000 x754001 x754002 x769000 x769001 x769002)) else (none)) else (none)) else (if 0 ≤ (wrap64 ((wrap64 (x14 * x754000)) + x109)) then (if (wrap64 ((wrap64 (x14 * x754000)) + x109)) < (x769002.length : Int) then (if (!(((rd_T48 x769002 (wrap64 ((wrap64 (x14 * x754000)) + x109))).f0) == bt770.1) || (!(((rd_T48 x769002 (wrap64 ((wrap64 (x14 * x754000)) + x109))).f1) == bt770.2.1) || (!(((rd_T48 x769002 (wrap64 ((wrap64 (x14 * x754000)) + x109))).f2) == bt770.2.2.1) || (!(((rd_T48 x769002 (wrap64 ((wrap64 (x14 * x754000)) + x109))).f3) == bt770.2.2.2))))) = true then (some false) else (imageeditorlaw15_WarpMoves.l1 k x2 x3 x14 x103 x104 x108 (wrap64 (x109 + 1)) x754000 x754001 x754002 x769000 x769001 x769002)) else (none)) else (none)))) else (imageeditorlaw15_WarpMoves.l0 k x2 x3 x103 (wrap64 (x104 + 1)) x754000 x754001 x754002 x769000 x769001 x769002)
end
def imageeditorlaw15_WarpMoves.f (k : Nat) (a0_0 : Int) (a0_1 : Int) (l0_2 : List (S48)) (a1 : Int) (a2 : Int) (a3 : Int) : Option (Bool) := if (l0_2.length : Int) = 0 then (imageeditorlaw15_WarpMoves.j0 k a1 a2 a3 true a0_0 a0_1 l0_2) else ((raster_Check.f k a0_0 a0_1 l0_2).bind fun t754 => (if t754 = 0 then (if a1 < 0 then (imageeditorlaw15_WarpMoves.j0 k a1 a2 a3 true a0_0 a0_1 l0_2) else (if a1 > 3 then (imageeditorlaw15_WarpMoves.j0 k a1 a2 a3 true a0_0 a0_1 l0_2) else (if a2 < (-16) then (imageeditorlaw15_WarpMoves.j0 k a1 a2 a3 true a0_0 a0_1 l0_2) else (if a2 > 16 then (imageeditorlaw15_WarpMoves.j0 k a1 a2 a3 true a0_0 a0_1 l0_2) else (if a3 < (-16) then (imageeditorlaw15_WarpMoves.j0 k a1 a2 a3 true a0_0 a0_1 l0_2) else (imageeditorlaw15_WarpMoves.j0 k a1 a2 a3 (decide (a3 > 16)) a0_0 a0_1 l0_2)))))) else (imageeditorlaw15_WarpMoves.j0 k a1 a2 a3 true a0_0 a0_1 l0_2)))
theorem imageeditorlaw15_WarpMoves.mono_l : ∀ k, (∀ y0 y1 y2 y3 y4 y5 y6, LeO (imageeditorlaw15_WarpMoves.j0 k y0 y1 y2 y3 y4 y5 y6) (imageeditorlaw15_WarpMoves.j0 (k + 1) y0 y1 y2 y3 y4 y5 y6)) ∧ (∀ y0 y1 y2 y3 y4 y5 y6 y7 y8, LeO (imageeditorlaw15_WarpMoves.j1 k y0 y1 y2 y3 y4 y5 y6 y7 y8) (imageeditorlaw15_WarpMoves.j1 (k + 1) y0 y1 y2 y3 y4 y5 y6 y7 y8)) ∧ (∀ y0 y1 y2 y3 y4 y5 y6 y7 y8 y9, LeO (imageeditorlaw15_WarpMoves.l0 k y0 y1 y2 y3 y4 y5 y6 y7 y8 y9) (imageeditorlaw15_WarpMoves.l0 (k + 1) y0 y1 y2 y3 y4 y5 y6 y7 y8 y9)) ∧ (∀ y0 y1 y2 y3 y4 y5 y6 y7 y8 y9 y10 y11 y12, LeO (imageeditorlaw15_WarpMoves.l1 k y0 y1 y2 y3 y4 y5 y6 y7 y8 y9 y10 y11 y12) (imageeditorlaw15_WarpMoves.l1 (k + 1) y0 y1 y2 y3 y4 y5 y6 y7 y8 y9 y10 y11 y12))
 | 0 => ⟨fun _ _ _ _ _ _ _ r h => by simp [imageeditorlaw15_WarpMoves.j0] at h, fun _ _ _ _ _ _ _ _ _ r h => by simp [imageeditorlaw15_WarpMoves.j1] at h, fun _ _ _ _ _ _ _ _ _ _ r h => by simp [imageeditorlaw15_WarpMoves.l0] at h, fun _ _ _ _ _ _ _ _ _ _ _ _ _ r h => by simp [imageeditorlaw15_WarpMoves.l1] at h⟩
 | k + 1 => by
  obtain ⟨ih0, ih1, ih2, ih3⟩ := imageeditorlaw15_WarpMoves.mono_l k
  refine ⟨?_, ?_, ?_, ?_⟩
  ·intro y0 y1 y2 y3 y4 y5 y6
   unfold imageeditorlaw15_WarpMoves.j0
   repeat' first
   | (with_reducible exact ih0 _ _ _ _ _ _ _)
   | (with_reducible exact ih1 _ _ _ _ _ _ _ _ _)
   | (with_reducible exact ih2 _ _ _ _ _ _ _ _ _ _)
   | (with_reducible exact ih3 _ _ _ _ _ _ _ _ _ _ _ _ _)
   | (with_reducible exact imageeditorlaw15_awake.mono _)
   | (with_reducible exact raster_Check.mono _ _ _ _)
   | (with_reducible exact raster_Edge.mono _ _ _ _ _ _)
   | (with_reducible exact warp_Draw.mono _ _ _ _ _ _ _ _ _ _ _ _ _ _ _ _ _ _ _)
   | (with_reducible exact LeO.refl _)
   | (with_reducible exact LeO.none _)
   | (with_reducible refine LeO.ite ?_ ?_)
   | (with_reducible refine LeO.bind ?_ (fun _ => ?_))
   | exact ih0 _ _ _ _ _ _ _
   | exact ih1 _ _ _ _ _ _ _ _ _
   | exact ih2 _ _ _ _ _ _ _ _ _ _
   | exact ih3 _ _ _ _ _ _ _ _ _ _ _ _ _
   | exact imageeditorlaw15_awake.mono _
   | exact raster_Check.mono _ _ _ _
   | exact raster_Edge.mono _ _ _ _ _ _
   | exact warp_Draw.mono _ _ _ _ _ _ _ _ _ _ _ _ _ _ _ _ _ _ _
   | exact LeO.none _
   | refine LeO.ite ?_ ?_
   | refine LeO.bind ?_ (fun _ => ?_)
  ·intro y0 y1 y2 y3 y4 y5 y6 y7 y8
   unfold imageeditorlaw15_WarpMoves.j1
   repeat' first
   | (with_reducible exact ih0 _ _ _ _ _ _ _)
   | (with_reducible exact ih1 _ _ _ _ _ _ _ _ _)
   | (with_reducible exact ih2 _ _ _ _ _ _ _ _ _ _)
   | (with_reducible exact ih3 _ _ _ _ _ _ _ _ _ _ _ _ _)
   | (with_reducible exact imageeditorlaw15_awake.mono _)
   | (with_reducible exact raster_Check.mono _ _ _ _)
   | (with_reducible exact raster_Edge.mono _ _ _ _ _ _)
   | (with_reducible exact warp_Draw.mono _ _ _ _ _ _ _ _ _ _ _ _ _ _ _ _ _ _ _)
   | (with_reducible exact LeO.refl _)
   | (with_reducible exact LeO.none _)
   | (with_reducible refine LeO.ite ?_ ?_)
   | (with_reducible refine LeO.bind ?_ (fun _ => ?_))
   | exact ih0 _ _ _ _ _ _ _
   | exact ih1 _ _ _ _ _ _ _ _ _
   | exact ih2 _ _ _ _ _ _ _ _ _ _
   | exact ih3 _ _ _ _ _ _ _ _ _ _ _ _ _
   | exact imageeditorlaw15_awake.mono _
   | exact raster_Check.mono _ _ _ _
   | exact raster_Edge.mono _ _ _ _ _ _
   | exact warp_Draw.mono _ _ _ _ _ _ _ _ _ _ _ _ _ _ _ _ _ _ _
   | exact LeO.none _
   | refine LeO.ite ?_ ?_
   | refine LeO.bind ?_ (fun _ => ?_)
  ·intro y0 y1 y2 y3 y4 y5 y6 y7 y8 y9
   unfold imageeditorlaw15_WarpMoves.l0
   repeat' first
   | (with_reducible exact ih0 _ _ _ _ _ _ _)
   | (with_reducible exact ih1 _ _ _ _ _ _ _ _ _)
   | (with_reducible exact ih2 _ _ _ _ _ _ _ _ _ _)
   | (with_reducible exact ih3 _ _ _ _ _ _ _ _ _ _ _ _ _)
   | (with_reducible exact imageeditorlaw15_awake.mono _)
   | (with_reducible exact raster_Check.mono _ _ _ _)
   | (with_reducible exact raster_Edge.mono _ _ _ _ _ _)
   | (with_reducible exact warp_Draw.mono _ _ _ _ _ _ _ _ _ _ _ _ _ _ _ _ _ _ _)
   | (with_reducible exact LeO.refl _)
   | (with_reducible exact LeO.none _)
   | (with_reducible refine LeO.ite ?_ ?_)
   | (with_reducible refine LeO.bind ?_ (fun _ => ?_))
   | exact ih0 _ _ _ _ _ _ _
   | exact ih1 _ _ _ _ _ _ _ _ _
   | exact ih2 _ _ _ _ _ _ _ _ _ _
   | exact ih3 _ _ _ _ _ _ _ _ _ _ _ _ _
   | exact imageeditorlaw15_awake.mono _
   | exact raster_Check.mono _ _ _ _
   | exact raster_Edge.mono _ _ _ _ _ _
   | exact warp_Draw.mono _ _ _ _ _ _ _ _ _ _ _ _ _ _ _ _ _ _ _
   | exact LeO.none _
   | refine LeO.ite ?_ ?_
   | refine LeO.bind ?_ (fun _ => ?_)
  ·intro y0 y1 y2 y3 y4 y5 y6 y7 y8 y9 y10 y11 y12
   unfold imageeditorlaw15_WarpMoves.l1
   repeat' first
   | (with_reducible exact ih0 _ _ _ _ _ _ _)
   | (with_reducible exact ih1 _ _ _ _ _ _ _ _ _)
   | (with_reducible exact ih2 _ _ _ _ _ _ _ _ _ _)
   | (with_reducible exact ih3 _ _ _ _ _ _ _ _ _ _ _ _ _)
   | (with_reducible exact imageeditorlaw15_awake.mono _)
   | (with_reducible exact raster_Check.mono _ _ _ _)
   | (with_reducible exact raster_Edge.mono _ _ _ _ _ _)
   | (with_reducible exact warp_Draw.mono _ _ _ _ _ _ _ _ _ _ _ _ _ _ _ _ _ _ _)
   | (with_reducible exact LeO.refl _)
   | (with_reducible exact LeO.none _)
   | (with_reducible refine LeO.ite ?_ ?_)
   | (with_reducible refine LeO.bind ?_ (fun _ => ?_))
   | exact ih0 _ _ _ _ _ _ _
   | exact ih1 _ _ _ _ _ _ _ _ _
   | exact ih2 _ _ _ _ _ _ _ _ _ _
   | exact ih3 _ _ _ _ _ _ _ _ _ _ _ _ _
   | exact imageeditorlaw15_awake.mono _
   | exact raster_Check.mono _ _ _ _
   | exact raster_Edge.mono _ _ _ _ _ _
   | exact warp_Draw.mono _ _ _ _ _ _ _ _ _ _ _ _ _ _ _ _ _ _ _
   | exact LeO.none _
   | refine LeO.ite ?_ ?_
   | refine LeO.bind ?_ (fun _ => ?_)
theorem imageeditorlaw15_WarpMoves.mono : ∀ a0 a1 a2 a3 a4 a5 k, LeO (imageeditorlaw15_WarpMoves.f k a0 a1 a2 a3 a4 a5) (imageeditorlaw15_WarpMoves.f (k + 1) a0 a1 a2 a3 a4 a5) := by
 intro a0 a1 a2 a3 a4 a5 k
 obtain ⟨ih0, ih1, ih2, ih3⟩ := imageeditorlaw15_WarpMoves.mono_l k
 unfold imageeditorlaw15_WarpMoves.f
 repeat' first
   | (with_reducible exact ih0 _ _ _ _ _ _ _)
   | (with_reducible exact ih1 _ _ _ _ _ _ _ _ _)
   | (with_reducible exact ih2 _ _ _ _ _ _ _ _ _ _)
   | (with_reducible exact ih3 _ _ _ _ _ _ _ _ _ _ _ _ _)
   | (with_reducible exact imageeditorlaw15_awake.mono _)
   | (with_reducible exact raster_Check.mono _ _ _ _)
   | (with_reducible exact raster_Edge.mono _ _ _ _ _ _)
   | (with_reducible exact warp_Draw.mono _ _ _ _ _ _ _ _ _ _ _ _ _ _ _ _ _ _ _)
   | (with_reducible exact LeO.refl _)
   | (with_reducible exact LeO.none _)
   | (with_reducible refine LeO.ite ?_ ?_)
   | (with_reducible refine LeO.bind ?_ (fun _ => ?_))
   | exact ih0 _ _ _ _ _ _ _
   | exact ih1 _ _ _ _ _ _ _ _ _
   | exact ih2 _ _ _ _ _ _ _ _ _ _
   | exact ih3 _ _ _ _ _ _ _ _ _ _ _ _ _
   | exact imageeditorlaw15_awake.mono _
   | exact raster_Check.mono _ _ _ _
   | exact raster_Edge.mono _ _ _ _ _ _
   | exact warp_Draw.mono _ _ _ _ _ _ _ _ _ _ _ _ _ _ _ _ _ _ _
   | exact LeO.none _
   | refine LeO.ite ?_ ?_
   | refine LeO.bind ?_ (fun _ => ?_)
set_option maxHeartbeats 8000000 in
set_option maxRecDepth 100000 in
theorem imageeditorlaw15_WarpMoves.callsT (k : Nat) (a0_0 : Int) (a0_1 : Int) (A0_2 : Option Addr) (c0_2 : Nat) (l0_2 : List (S48)) (a1 : Int) (a2 : Int) (a3 : Int) (r : Bool) (w : World) (hr0_2 : Kd.C k48 w A0_2 l0_2.length l0_2) (hc0_2 : l0_2.length ≤ c0_2) (hT : r = true) (h : imageeditorlaw15_WarpMoves.f k a0_0 a0_1 l0_2 a1 a2 a3 = some r) :
  Calls Try.prog 7 #[.agg #[.int .i64 a0_0, .int .i64 a0_1, .slice A0_2 l0_2.length c0_2], .int .i64 a1, .int .i64 a2, .int .i64 a3] w fun e w' => e = .returned (.bool r) ∧ Below w.heap.size w w' := by
 have hu40 := Try.underlying40
 have hu28 := Try.underlying28
 have hu24 := Try.underlying24
 have hu34 := Try.underlying34
 have hu48 := Try.underlying48
 have HT := Aside0.mk hT
 clear hT
 have HR0_2 := Aside0.mk hr0_2
 have HC0_2 := Aside0.mk hc0_2
 clear hr0_2 hc0_2
 have HB := Aside0.mk (Below.refl w.heap.size w)
 have H : (if (l0_2.length : Int) = 0 then (imageeditorlaw15_WarpMoves.j0 k a1 a2 a3 true a0_0 a0_1 l0_2) else ((raster_Check.f k a0_0 a0_1 l0_2).bind fun t754 => (if t754 = 0 then (if a1 < 0 then (imageeditorlaw15_WarpMoves.j0 k a1 a2 a3 true a0_0 a0_1 l0_2) else (if a1 > 3 then (imageeditorlaw15_WarpMoves.j0 k a1 a2 a3 true a0_0 a0_1 l0_2) else (if a2 < (-16) then (imageeditorlaw15_WarpMoves.j0 k a1 a2 a3 true a0_0 a0_1 l0_2) else (if a2 > 16 then (imageeditorlaw15_WarpMoves.j0 k a1 a2 a3 true a0_0 a0_1 l0_2) else (if a3 < (-16) then (imageeditorlaw15_WarpMoves.j0 k a1 a2 a3 true a0_0 a0_1 l0_2) else (imageeditorlaw15_WarpMoves.j0 k a1 a2 a3 (decide (a3 > 16)) a0_0 a0_1 l0_2)))))) else (imageeditorlaw15_WarpMoves.j0 k a1 a2 a3 true a0_0 a0_1 l0_2)))) = some r := h
 clear h
 have HC5 := Aside0.mk H
 clear H
 go_enter Try.func7, Try.ntmps7
 go_upto_region 1 with (first | ((with_reducible refine gate_dst (N := 4) rfl ?_); (try (refine gate_guard (by rfl) ?_; dsimp only)); refine box_event ?hg (N := 4) ?hd (cs := #[.int .i64 a0_0, .int .i64 a0_1, .slice A0_2 l0_2.length c0_2]) (t := 40) ?hr ?_; (case hd => rfl); (case hg => rfl); (case hr => first | (go_simp; done) | (go_simp; rfl)); intro gb753 hg w6 hbox hb; have GW753 := zg HB hg; have GE753 := zg HB hg; have n0_ := Aside0.mk (hbox); replace HB := zb HB hb; have BK753 := n0_; clear n0_; clear hb hbox hg))
 repeat (go_quiet (first | ((with_reducible refine gate_dst (N := 4) rfl ?_); (try (refine gate_guard (by rfl) ?_; dsimp only)); refine box_event ?hg (N := 4) ?hd (cs := #[.int .i64 a0_0, .int .i64 a0_1, .slice A0_2 l0_2.length c0_2]) (t := 40) ?hr ?_; (case hd => rfl); (case hg => rfl); (case hr => first | (go_simp; done) | (go_simp; rfl)); intro gb753 hg w6 hbox hb; have GW753 := zg HB hg; have GE753 := zg HB hg; have n0_ := Aside0.mk (hbox); replace HB := zb HB hb; have BK753 := n0_; clear n0_; clear hb hbox hg)); go_upto_region 1 with (first | ((with_reducible refine gate_dst (N := 4) rfl ?_); (try (refine gate_guard (by rfl) ?_; dsimp only)); refine box_event ?hg (N := 4) ?hd (cs := #[.int .i64 a0_0, .int .i64 a0_1, .slice A0_2 l0_2.length c0_2]) (t := 40) ?hr ?_; (case hd => rfl); (case hg => rfl); (case hr => first | (go_simp; done) | (go_simp; rfl)); intro gb753 hg w6 hbox hb; have GW753 := zg HB hg; have GE753 := zg HB hg; have n0_ := Aside0.mk (hbox); replace HB := zb HB hb; have BK753 := n0_; clear n0_; clear hb hbox hg)))
 (try simp only [Act.put, sA, sB, sC])
 go_cut [49] (fun v49 wc => ∃ (kq : Nat) (x49_4 : Bool), v49 = .bool x49_4 ∧ Aside0 (imageeditorlaw15_WarpMoves.j0 kq a1 a2 a3 x49_4 a0_0 a0_1 l0_2 = some r) ∧ Aside0 (kq ≤ k) ∧ Aside0 (wc.heap[gb753]? = some (.cells #[.int .i64 a0_0, .int .i64 a0_1, (.slice A0_2 l0_2.length c0_2)] 40 (0, 0))) ∧ Aside0 (Below w.heap.size w wc))
 case first =>
  have H := HC5.out
  clear HC5
  by_cases c7 : (l0_2.length : Int) = 0
  ·rw [if_pos c7] at H
   have c7b0 : ((l0_2.length : Int) == 0) = true := beq_iff_eq.mpr c7
   have c7b1 : ((l0_2.length : Int) != 0) = false := bne_eq_false_iff_eq.mpr c7
   clear c7
   (first | rw [c7b0] | (simp only [i64_w, i32_w]; rw [c7b0]) | skip)
   as_aux_lemma =>
    have H' := Aside0.mk H
    clear H
    obtain ⟨hcz8_0, hcz8_1, hcz8_2, hfz8_0, hfz8_1, hfz8_2⟩ := zq3 BK753
    go_wp2
    repeat (go_quiet (fail); try go_wp2)
    go_meet
    case rel => exact ⟨_, (true), (by first | rfl | (simp; done) | (simp [*]; done)), H', ⟨by first | omega | exact Nat.le_refl _⟩, ⟨by exact zk0 BK753⟩, ⟨by exact zb0 HB⟩⟩
  ·rw [if_neg c7] at H
   have c7b0 : ((l0_2.length : Int) == 0) = false := beq_eq_false_iff_ne.mpr c7
   have c7b1 : ((l0_2.length : Int) != 0) = true := bne_iff_ne.mpr c7
   have c7b2 : ¬ (l0_2 = []) := fun h_ => c7 (by rw [h_]; rfl)
   (first | rw [c7b0] | (simp only [i64_w, i32_w]; rw [c7b0]) | skip)
   replace H := Option.bind_eq_some_iff.mp H
   obtain ⟨t754, A90, H⟩ := H
   replace H : (if t754 = 0 then (if a1 < 0 then (imageeditorlaw15_WarpMoves.j0 k a1 a2 a3 true a0_0 a0_1 l0_2) else (if a1 > 3 then (imageeditorlaw15_WarpMoves.j0 k a1 a2 a3 true a0_0 a0_1 l0_2) else (if a2 < (-16) then (imageeditorlaw15_WarpMoves.j0 k a1 a2 a3 true a0_0 a0_1 l0_2) else (if a2 > 16 then (imageeditorlaw15_WarpMoves.j0 k a1 a2 a3 true a0_0 a0_1 l0_2) else (if a3 < (-16) then (imageeditorlaw15_WarpMoves.j0 k a1 a2 a3 true a0_0 a0_1 l0_2) else (imageeditorlaw15_WarpMoves.j0 k a1 a2 a3 (decide (a3 > 16)) a0_0 a0_1 l0_2)))))) else (imageeditorlaw15_WarpMoves.j0 k a1 a2 a3 true a0_0 a0_1 l0_2)) = some r := H
   have A9 := Aside0.mk A90
   clear A90
   by_cases c10 : t754 = 0
   ·rw [if_pos c10] at H
    have c10b0 : (t754 == 0) = true := beq_iff_eq.mpr c10
    have c10b1 : (t754 != 0) = false := bne_eq_false_iff_eq.mpr c10
    clear c10
    by_cases c11 : a1 < 0
    ·rw [if_pos c11] at H
     have c11b0 : decide (a1 < 0) = true := decide_eq_true c11
     clear c11
     as_aux_lemma =>
      have H' := Aside0.mk H
      clear H
      obtain ⟨hcz12_0, hcz12_1, hcz12_2, hfz12_0, hfz12_1, hfz12_2⟩ := zq3 BK753
      go_wp2_with (first | (go_at_call 22; (with_reducible refine (raster_Check.calls k a0_0 a0_1 _ _ l0_2 t754 _ ?side1 ?side2 A9.out).mono ?_); (case side1 => repeat (first | exact (Kd.C_below HR0_2.out HB.out) | (with_reducible refine Kd.C_alloc ?_ _) | (with_reducible refine Kd.C_drewN ?_ _) | (with_reducible refine Kd.C_drew ?_))); (case side2 => exact HC0_2.out); rintro e w13 ⟨rfl, hb⟩; replace BK753 := zk BK753 hb; replace HB := zb HB hb; (try clear hb); (try clear hb2); (try clear hk); (try clear hi)))
      repeat (go_quiet (first | (go_at_call 22; (with_reducible refine (raster_Check.calls k a0_0 a0_1 _ _ l0_2 t754 _ ?side1 ?side2 A9.out).mono ?_); (case side1 => repeat (first | exact (Kd.C_below HR0_2.out HB.out) | (with_reducible refine Kd.C_alloc ?_ _) | (with_reducible refine Kd.C_drewN ?_ _) | (with_reducible refine Kd.C_drew ?_))); (case side2 => exact HC0_2.out); rintro e w13 ⟨rfl, hb⟩; replace BK753 := zk BK753 hb; replace HB := zb HB hb; (try clear hb); (try clear hb2); (try clear hk); (try clear hi))); try go_wp2_with (first | (go_at_call 22; (with_reducible refine (raster_Check.calls k a0_0 a0_1 _ _ l0_2 t754 _ ?side1 ?side2 A9.out).mono ?_); (case side1 => repeat (first | exact (Kd.C_below HR0_2.out HB.out) | (with_reducible refine Kd.C_alloc ?_ _) | (with_reducible refine Kd.C_drewN ?_ _) | (with_reducible refine Kd.C_drew ?_))); (case side2 => exact HC0_2.out); rintro e w13 ⟨rfl, hb⟩; replace BK753 := zk BK753 hb; replace HB := zb HB hb; (try clear hb); (try clear hb2); (try clear hk); (try clear hi))))
      go_meet
      case rel => exact ⟨_, (true), (by first | rfl | (simp; done) | (simp [*]; done)), H', ⟨by first | omega | exact Nat.le_refl _⟩, ⟨by exact zk0 BK753⟩, ⟨by exact zb0 HB⟩⟩
    ·rw [if_neg c11] at H
     have c11b0 : decide (a1 < 0) = false := decide_eq_false c11
     clear c11
     by_cases c14 : a1 > 3
     ·rw [if_pos c14] at H
      have c14b0 : decide (3 < a1) = true := decide_eq_true c14
      clear c14
      as_aux_lemma =>
       have H' := Aside0.mk H
       clear H
       obtain ⟨hcz15_0, hcz15_1, hcz15_2, hfz15_0, hfz15_1, hfz15_2⟩ := zq3 BK753
       go_wp2_with (first | (go_at_call 22; (with_reducible refine (raster_Check.calls k a0_0 a0_1 _ _ l0_2 t754 _ ?side1 ?side2 A9.out).mono ?_); (case side1 => repeat (first | exact (Kd.C_below HR0_2.out HB.out) | (with_reducible refine Kd.C_alloc ?_ _) | (with_reducible refine Kd.C_drewN ?_ _) | (with_reducible refine Kd.C_drew ?_))); (case side2 => exact HC0_2.out); rintro e w16 ⟨rfl, hb⟩; replace BK753 := zk BK753 hb; replace HB := zb HB hb; (try clear hb); (try clear hb2); (try clear hk); (try clear hi)))
       repeat (go_quiet (first | (go_at_call 22; (with_reducible refine (raster_Check.calls k a0_0 a0_1 _ _ l0_2 t754 _ ?side1 ?side2 A9.out).mono ?_); (case side1 => repeat (first | exact (Kd.C_below HR0_2.out HB.out) | (with_reducible refine Kd.C_alloc ?_ _) | (with_reducible refine Kd.C_drewN ?_ _) | (with_reducible refine Kd.C_drew ?_))); (case side2 => exact HC0_2.out); rintro e w16 ⟨rfl, hb⟩; replace BK753 := zk BK753 hb; replace HB := zb HB hb; (try clear hb); (try clear hb2); (try clear hk); (try clear hi))); try go_wp2_with (first | (go_at_call 22; (with_reducible refine (raster_Check.calls k a0_0 a0_1 _ _ l0_2 t754 _ ?side1 ?side2 A9.out).mono ?_); (case side1 => repeat (first | exact (Kd.C_below HR0_2.out HB.out) | (with_reducible refine Kd.C_alloc ?_ _) | (with_reducible refine Kd.C_drewN ?_ _) | (with_reducible refine Kd.C_drew ?_))); (case side2 => exact HC0_2.out); rintro e w16 ⟨rfl, hb⟩; replace BK753 := zk BK753 hb; replace HB := zb HB hb; (try clear hb); (try clear hb2); (try clear hk); (try clear hi))))
       go_meet
       case rel => exact ⟨_, (true), (by first | rfl | (simp; done) | (simp [*]; done)), H', ⟨by first | omega | exact Nat.le_refl _⟩, ⟨by exact zk0 BK753⟩, ⟨by exact zb0 HB⟩⟩
     ·rw [if_neg c14] at H
      have c14b0 : decide (3 < a1) = false := decide_eq_false c14
      clear c14
      by_cases c17 : a2 < (-16)
      ·rw [if_pos c17] at H
       have c17b0 : decide (a2 < (-16)) = true := decide_eq_true c17
       clear c17
       as_aux_lemma =>
        have H' := Aside0.mk H
        clear H
        obtain ⟨hcz18_0, hcz18_1, hcz18_2, hfz18_0, hfz18_1, hfz18_2⟩ := zq3 BK753
        go_wp2_with (first | (go_at_call 22; (with_reducible refine (raster_Check.calls k a0_0 a0_1 _ _ l0_2 t754 _ ?side1 ?side2 A9.out).mono ?_); (case side1 => repeat (first | exact (Kd.C_below HR0_2.out HB.out) | (with_reducible refine Kd.C_alloc ?_ _) | (with_reducible refine Kd.C_drewN ?_ _) | (with_reducible refine Kd.C_drew ?_))); (case side2 => exact HC0_2.out); rintro e w19 ⟨rfl, hb⟩; replace BK753 := zk BK753 hb; replace HB := zb HB hb; (try clear hb); (try clear hb2); (try clear hk); (try clear hi)))
        repeat (go_quiet (first | (go_at_call 22; (with_reducible refine (raster_Check.calls k a0_0 a0_1 _ _ l0_2 t754 _ ?side1 ?side2 A9.out).mono ?_); (case side1 => repeat (first | exact (Kd.C_below HR0_2.out HB.out) | (with_reducible refine Kd.C_alloc ?_ _) | (with_reducible refine Kd.C_drewN ?_ _) | (with_reducible refine Kd.C_drew ?_))); (case side2 => exact HC0_2.out); rintro e w19 ⟨rfl, hb⟩; replace BK753 := zk BK753 hb; replace HB := zb HB hb; (try clear hb); (try clear hb2); (try clear hk); (try clear hi))); try go_wp2_with (first | (go_at_call 22; (with_reducible refine (raster_Check.calls k a0_0 a0_1 _ _ l0_2 t754 _ ?side1 ?side2 A9.out).mono ?_); (case side1 => repeat (first | exact (Kd.C_below HR0_2.out HB.out) | (with_reducible refine Kd.C_alloc ?_ _) | (with_reducible refine Kd.C_drewN ?_ _) | (with_reducible refine Kd.C_drew ?_))); (case side2 => exact HC0_2.out); rintro e w19 ⟨rfl, hb⟩; replace BK753 := zk BK753 hb; replace HB := zb HB hb; (try clear hb); (try clear hb2); (try clear hk); (try clear hi))))
        go_meet
        case rel => exact ⟨_, (true), (by first | rfl | (simp; done) | (simp [*]; done)), H', ⟨by first | omega | exact Nat.le_refl _⟩, ⟨by exact zk0 BK753⟩, ⟨by exact zb0 HB⟩⟩
      ·rw [if_neg c17] at H
       have c17b0 : decide (a2 < (-16)) = false := decide_eq_false c17
       clear c17
       by_cases c20 : a2 > 16
       ·rw [if_pos c20] at H
        have c20b0 : decide (16 < a2) = true := decide_eq_true c20
        clear c20
        as_aux_lemma =>
         have H' := Aside0.mk H
         clear H
         obtain ⟨hcz21_0, hcz21_1, hcz21_2, hfz21_0, hfz21_1, hfz21_2⟩ := zq3 BK753
         go_wp2_with (first | (go_at_call 22; (with_reducible refine (raster_Check.calls k a0_0 a0_1 _ _ l0_2 t754 _ ?side1 ?side2 A9.out).mono ?_); (case side1 => repeat (first | exact (Kd.C_below HR0_2.out HB.out) | (with_reducible refine Kd.C_alloc ?_ _) | (with_reducible refine Kd.C_drewN ?_ _) | (with_reducible refine Kd.C_drew ?_))); (case side2 => exact HC0_2.out); rintro e w22 ⟨rfl, hb⟩; replace BK753 := zk BK753 hb; replace HB := zb HB hb; (try clear hb); (try clear hb2); (try clear hk); (try clear hi)))
         repeat (go_quiet (first | (go_at_call 22; (with_reducible refine (raster_Check.calls k a0_0 a0_1 _ _ l0_2 t754 _ ?side1 ?side2 A9.out).mono ?_); (case side1 => repeat (first | exact (Kd.C_below HR0_2.out HB.out) | (with_reducible refine Kd.C_alloc ?_ _) | (with_reducible refine Kd.C_drewN ?_ _) | (with_reducible refine Kd.C_drew ?_))); (case side2 => exact HC0_2.out); rintro e w22 ⟨rfl, hb⟩; replace BK753 := zk BK753 hb; replace HB := zb HB hb; (try clear hb); (try clear hb2); (try clear hk); (try clear hi))); try go_wp2_with (first | (go_at_call 22; (with_reducible refine (raster_Check.calls k a0_0 a0_1 _ _ l0_2 t754 _ ?side1 ?side2 A9.out).mono ?_); (case side1 => repeat (first | exact (Kd.C_below HR0_2.out HB.out) | (with_reducible refine Kd.C_alloc ?_ _) | (with_reducible refine Kd.C_drewN ?_ _) | (with_reducible refine Kd.C_drew ?_))); (case side2 => exact HC0_2.out); rintro e w22 ⟨rfl, hb⟩; replace BK753 := zk BK753 hb; replace HB := zb HB hb; (try clear hb); (try clear hb2); (try clear hk); (try clear hi))))
         go_meet
         case rel => exact ⟨_, (true), (by first | rfl | (simp; done) | (simp [*]; done)), H', ⟨by first | omega | exact Nat.le_refl _⟩, ⟨by exact zk0 BK753⟩, ⟨by exact zb0 HB⟩⟩
       ·rw [if_neg c20] at H
        have c20b0 : decide (16 < a2) = false := decide_eq_false c20
        clear c20
        by_cases c23 : a3 < (-16)
        ·rw [if_pos c23] at H
         have c23b0 : decide (a3 < (-16)) = true := decide_eq_true c23
         clear c23
         as_aux_lemma =>
          have H' := Aside0.mk H
          clear H
          obtain ⟨hcz24_0, hcz24_1, hcz24_2, hfz24_0, hfz24_1, hfz24_2⟩ := zq3 BK753
          go_wp2_with (first | (go_at_call 22; (with_reducible refine (raster_Check.calls k a0_0 a0_1 _ _ l0_2 t754 _ ?side1 ?side2 A9.out).mono ?_); (case side1 => repeat (first | exact (Kd.C_below HR0_2.out HB.out) | (with_reducible refine Kd.C_alloc ?_ _) | (with_reducible refine Kd.C_drewN ?_ _) | (with_reducible refine Kd.C_drew ?_))); (case side2 => exact HC0_2.out); rintro e w25 ⟨rfl, hb⟩; replace BK753 := zk BK753 hb; replace HB := zb HB hb; (try clear hb); (try clear hb2); (try clear hk); (try clear hi)))
          repeat (go_quiet (first | (go_at_call 22; (with_reducible refine (raster_Check.calls k a0_0 a0_1 _ _ l0_2 t754 _ ?side1 ?side2 A9.out).mono ?_); (case side1 => repeat (first | exact (Kd.C_below HR0_2.out HB.out) | (with_reducible refine Kd.C_alloc ?_ _) | (with_reducible refine Kd.C_drewN ?_ _) | (with_reducible refine Kd.C_drew ?_))); (case side2 => exact HC0_2.out); rintro e w25 ⟨rfl, hb⟩; replace BK753 := zk BK753 hb; replace HB := zb HB hb; (try clear hb); (try clear hb2); (try clear hk); (try clear hi))); try go_wp2_with (first | (go_at_call 22; (with_reducible refine (raster_Check.calls k a0_0 a0_1 _ _ l0_2 t754 _ ?side1 ?side2 A9.out).mono ?_); (case side1 => repeat (first | exact (Kd.C_below HR0_2.out HB.out) | (with_reducible refine Kd.C_alloc ?_ _) | (with_reducible refine Kd.C_drewN ?_ _) | (with_reducible refine Kd.C_drew ?_))); (case side2 => exact HC0_2.out); rintro e w25 ⟨rfl, hb⟩; replace BK753 := zk BK753 hb; replace HB := zb HB hb; (try clear hb); (try clear hb2); (try clear hk); (try clear hi))))
          go_meet
          case rel => exact ⟨_, (true), (by first | rfl | (simp; done) | (simp [*]; done)), H', ⟨by first | omega | exact Nat.le_refl _⟩, ⟨by exact zk0 BK753⟩, ⟨by exact zb0 HB⟩⟩
        ·rw [if_neg c23] at H
         have c23b0 : decide (a3 < (-16)) = false := decide_eq_false c23
         clear c23
         as_aux_lemma =>
          have H' := Aside0.mk H
          clear H
          obtain ⟨hcz26_0, hcz26_1, hcz26_2, hfz26_0, hfz26_1, hfz26_2⟩ := zq3 BK753
          go_wp2_with (first | (go_at_call 22; (with_reducible refine (raster_Check.calls k a0_0 a0_1 _ _ l0_2 t754 _ ?side1 ?side2 A9.out).mono ?_); (case side1 => repeat (first | exact (Kd.C_below HR0_2.out HB.out) | (with_reducible refine Kd.C_alloc ?_ _) | (with_reducible refine Kd.C_drewN ?_ _) | (with_reducible refine Kd.C_drew ?_))); (case side2 => exact HC0_2.out); rintro e w27 ⟨rfl, hb⟩; replace BK753 := zk BK753 hb; replace HB := zb HB hb; (try clear hb); (try clear hb2); (try clear hk); (try clear hi)))
          repeat (go_quiet (first | (go_at_call 22; (with_reducible refine (raster_Check.calls k a0_0 a0_1 _ _ l0_2 t754 _ ?side1 ?side2 A9.out).mono ?_); (case side1 => repeat (first | exact (Kd.C_below HR0_2.out HB.out) | (with_reducible refine Kd.C_alloc ?_ _) | (with_reducible refine Kd.C_drewN ?_ _) | (with_reducible refine Kd.C_drew ?_))); (case side2 => exact HC0_2.out); rintro e w27 ⟨rfl, hb⟩; replace BK753 := zk BK753 hb; replace HB := zb HB hb; (try clear hb); (try clear hb2); (try clear hk); (try clear hi))); try go_wp2_with (first | (go_at_call 22; (with_reducible refine (raster_Check.calls k a0_0 a0_1 _ _ l0_2 t754 _ ?side1 ?side2 A9.out).mono ?_); (case side1 => repeat (first | exact (Kd.C_below HR0_2.out HB.out) | (with_reducible refine Kd.C_alloc ?_ _) | (with_reducible refine Kd.C_drewN ?_ _) | (with_reducible refine Kd.C_drew ?_))); (case side2 => exact HC0_2.out); rintro e w27 ⟨rfl, hb⟩; replace BK753 := zk BK753 hb; replace HB := zb HB hb; (try clear hb); (try clear hb2); (try clear hk); (try clear hi))))
          go_meet
          case rel => exact ⟨_, (decide (a3 > 16)), (by first | rfl | (simp; done) | (simp [*]; done)), H', ⟨by first | omega | exact Nat.le_refl _⟩, ⟨by exact zk0 BK753⟩, ⟨by exact zb0 HB⟩⟩
   ·rw [if_neg c10] at H
    have c10b0 : (t754 == 0) = false := beq_eq_false_iff_ne.mpr c10
    have c10b1 : (t754 != 0) = true := bne_iff_ne.mpr c10
    as_aux_lemma =>
     have H' := Aside0.mk H
     clear H
     obtain ⟨hcz28_0, hcz28_1, hcz28_2, hfz28_0, hfz28_1, hfz28_2⟩ := zq3 BK753
     go_wp2_with (first | (go_at_call 22; (with_reducible refine (raster_Check.calls k a0_0 a0_1 _ _ l0_2 t754 _ ?side1 ?side2 A9.out).mono ?_); (case side1 => repeat (first | exact (Kd.C_below HR0_2.out HB.out) | (with_reducible refine Kd.C_alloc ?_ _) | (with_reducible refine Kd.C_drewN ?_ _) | (with_reducible refine Kd.C_drew ?_))); (case side2 => exact HC0_2.out); rintro e w29 ⟨rfl, hb⟩; replace BK753 := zk BK753 hb; replace HB := zb HB hb; (try clear hb); (try clear hb2); (try clear hk); (try clear hi)))
     repeat (go_quiet (first | (go_at_call 22; (with_reducible refine (raster_Check.calls k a0_0 a0_1 _ _ l0_2 t754 _ ?side1 ?side2 A9.out).mono ?_); (case side1 => repeat (first | exact (Kd.C_below HR0_2.out HB.out) | (with_reducible refine Kd.C_alloc ?_ _) | (with_reducible refine Kd.C_drewN ?_ _) | (with_reducible refine Kd.C_drew ?_))); (case side2 => exact HC0_2.out); rintro e w29 ⟨rfl, hb⟩; replace BK753 := zk BK753 hb; replace HB := zb HB hb; (try clear hb); (try clear hb2); (try clear hk); (try clear hi))); try go_wp2_with (first | (go_at_call 22; (with_reducible refine (raster_Check.calls k a0_0 a0_1 _ _ l0_2 t754 _ ?side1 ?side2 A9.out).mono ?_); (case side1 => repeat (first | exact (Kd.C_below HR0_2.out HB.out) | (with_reducible refine Kd.C_alloc ?_ _) | (with_reducible refine Kd.C_drewN ?_ _) | (with_reducible refine Kd.C_drew ?_))); (case side2 => exact HC0_2.out); rintro e w29 ⟨rfl, hb⟩; replace BK753 := zk BK753 hb; replace HB := zb HB hb; (try clear hb); (try clear hb2); (try clear hk); (try clear hi))))
     go_meet
     case rel => exact ⟨_, (true), (by first | rfl | (simp; done) | (simp [*]; done)), H', ⟨by first | omega | exact Nat.le_refl _⟩, ⟨by exact zk0 BK753⟩, ⟨by exact zb0 HB⟩⟩
 case rest =>
  clear HC5
  try clear c1
  try clear c2
  try clear p2
  try clear q3
  try clear c7
  try clear c7b0
  try clear c7b1
  try clear c7b2
  try clear c10
  try clear c10b0
  try clear c10b1
  try clear c11
  try clear c11b0
  try clear c14
  try clear c14b0
  try clear c17
  try clear c17b0
  try clear c20
  try clear c20b0
  try clear c23
  try clear c23b0
  try clear hcz12_0
  try clear hcz12_1
  try clear hcz12_2
  try clear hcz15_0
  try clear hcz15_1
  try clear hcz15_2
  try clear hcz18_0
  try clear hcz18_1
  try clear hcz18_2
  try clear hcz21_0
  try clear hcz21_1
  try clear hcz21_2
  try clear hcz24_0
  try clear hcz24_1
  try clear hcz24_2
  try clear hcz26_0
  try clear hcz26_1
  try clear hcz26_2
  try clear hcz28_0
  try clear hcz28_1
  try clear hcz28_2
  try clear hcz8_0
  try clear hcz8_1
  try clear hcz8_2
  try clear hfz12_0
  try clear hfz12_1
  try clear hfz12_2
  try clear hfz15_0
  try clear hfz15_1
  try clear hfz15_2
  try clear hfz18_0
  try clear hfz18_1
  try clear hfz18_2
  try clear hfz21_0
  try clear hfz21_1
  try clear hfz21_2
  try clear hfz24_0
  try clear hfz24_1
  try clear hfz24_2
  try clear hfz26_0
  try clear hfz26_1
  try clear hfz26_2
  try clear hfz28_0
  try clear hfz28_1
  try clear hfz28_2
  try clear hfz8_0
  try clear hfz8_1
  try clear hfz8_2
  obtain ⟨kq, x49_4, rfl, HA, HJ4, BK753, HB⟩ := hcut
  cases kq with
  | zero => exact absurd HA.out (by simp [imageeditorlaw15_WarpMoves.j0])
  | succ kj4 =>
   have H := HA.out
   clear HA
   simp only [imageeditorlaw15_WarpMoves.j0] at H
   by_cases c30 : x49_4 = true
   ·subst c30
    have H1 : ((imageeditorlaw15_awake.f kj4).bind fun t755 => (some t755)) = some r := by rw [if_pos rfl] at H; exact H
    clear H
    have H := H1
    clear H1
    replace H := Option.bind_eq_some_iff.mp H
    obtain ⟨t755, A310, H⟩ := H
    replace H : (some t755) = some r := H
    have A31 := Aside0.mk A310
    clear A310
    as_aux_lemma =>
     obtain rfl := Option.some.inj H
     (try clear BK753)
     go_wp2_with (first | (go_at_call 16; (with_reducible refine (imageeditorlaw15_awake.calls kj4  t755 _ A31.out).mono ?_); rintro e w32 ⟨rfl, hb⟩; replace HB := zb HB hb; (try clear hb); (try clear hb2); (try clear hk); (try clear hi)))
     repeat (go_quiet (first | (go_at_call 16; (with_reducible refine (imageeditorlaw15_awake.calls kj4  t755 _ A31.out).mono ?_); rintro e w32 ⟨rfl, hb⟩; replace HB := zb HB hb; (try clear hb); (try clear hb2); (try clear hk); (try clear hi))); try go_wp2_with (first | (go_at_call 16; (with_reducible refine (imageeditorlaw15_awake.calls kj4  t755 _ A31.out).mono ?_); rintro e w32 ⟨rfl, hb⟩; replace HB := zb HB hb; (try clear hb); (try clear hb2); (try clear hk); (try clear hi))))
     go_ret
     exact ⟨by first | rfl | (simp [errW_none, errW_some] <;> rfl) | (simp [*, errW_none, errW_some] <;> rfl), by exact zb0 HB⟩
   ·replace c30 := Bool.eq_false_iff.mpr c30
    subst c30
    have H1 : ((warp_Draw.f kj4 a0_0 a0_1 l0_2 0 0 0 0 a0_0 a0_1 2 2 3 (([(⟨wrap64 (a2 * 65536), wrap64 (a3 * 65536)⟩ : S28), (⟨wrap64 (a2 * 65536), wrap64 (a3 * 65536)⟩ : S28), (⟨wrap64 (a2 * 65536), wrap64 (a3 * 65536)⟩ : S28), (⟨wrap64 (a2 * 65536), wrap64 (a3 * 65536)⟩ : S28)] : List (S28))) a1 0 0 a0_0 a0_1).bind fun bt762 => (if bt762.2.2.2 = 0 then (if bt762.1 = a0_0 then (if bt762.2.1 = a0_1 then (imageeditorlaw15_WarpMoves.j1 kj4 a2 a3 ((bt762.2.2.1.length : Int) != (l0_2.length : Int)) a0_0 a0_1 l0_2 bt762.1 bt762.2.1 bt762.2.2.1) else (imageeditorlaw15_WarpMoves.j1 kj4 a2 a3 true a0_0 a0_1 l0_2 bt762.1 bt762.2.1 bt762.2.2.1)) else (imageeditorlaw15_WarpMoves.j1 kj4 a2 a3 true a0_0 a0_1 l0_2 bt762.1 bt762.2.1 bt762.2.2.1)) else (imageeditorlaw15_WarpMoves.j1 kj4 a2 a3 true a0_0 a0_1 l0_2 bt762.1 bt762.2.1 bt762.2.2.1))) = some r := by rw [if_neg (show ¬ (false = true) by decide)] at H; exact H
    clear H
    have H := H1
    clear H1
    obtain ⟨y757, hy757⟩ : ∃ y_ : List (S28), y_ = (([(⟨wrap64 (a2 * 65536), wrap64 (a3 * 65536)⟩ : S28), (⟨wrap64 (a2 * 65536), wrap64 (a3 * 65536)⟩ : S28), (⟨wrap64 (a2 * 65536), wrap64 (a3 * 65536)⟩ : S28), (⟨wrap64 (a2 * 65536), wrap64 (a3 * 65536)⟩ : S28)] : List (S28))) := ⟨_, rfl⟩
    replace H : ((warp_Draw.f kj4 a0_0 a0_1 l0_2 0 0 0 0 a0_0 a0_1 2 2 3 y757 a1 0 0 a0_0 a0_1).bind fun bt762 => (if bt762.2.2.2 = 0 then (if bt762.1 = a0_0 then (if bt762.2.1 = a0_1 then (imageeditorlaw15_WarpMoves.j1 kj4 a2 a3 ((bt762.2.2.1.length : Int) != (l0_2.length : Int)) a0_0 a0_1 l0_2 bt762.1 bt762.2.1 bt762.2.2.1) else (imageeditorlaw15_WarpMoves.j1 kj4 a2 a3 true a0_0 a0_1 l0_2 bt762.1 bt762.2.1 bt762.2.2.1)) else (imageeditorlaw15_WarpMoves.j1 kj4 a2 a3 true a0_0 a0_1 l0_2 bt762.1 bt762.2.1 bt762.2.2.1)) else (imageeditorlaw15_WarpMoves.j1 kj4 a2 a3 true a0_0 a0_1 l0_2 bt762.1 bt762.2.1 bt762.2.2.1))) = some r := by first | (rw [hy757]; with_reducible exact H) | (have H2_ := (Option.bind_some _ _).symm.trans H; rw [hy757]; with_reducible exact H2_) | (have H2_ := (Option.bind_some _ _).symm.trans H; with_reducible exact H2_) | with_reducible exact H | (rw [hy757]; exact H) | exact H
    have Ny757 := Aside0.mk hy757
    clear hy757
    replace H := Option.bind_eq_some_iff.mp H
    obtain ⟨⟨t762, t763, t764, t767⟩, A330, H⟩ := H
    replace H : (if t767 = 0 then (if t762 = a0_0 then (if t763 = a0_1 then (imageeditorlaw15_WarpMoves.j1 kj4 a2 a3 ((t764.length : Int) != (l0_2.length : Int)) a0_0 a0_1 l0_2 t762 t763 t764) else (imageeditorlaw15_WarpMoves.j1 kj4 a2 a3 true a0_0 a0_1 l0_2 t762 t763 t764)) else (imageeditorlaw15_WarpMoves.j1 kj4 a2 a3 true a0_0 a0_1 l0_2 t762 t763 t764)) else (imageeditorlaw15_WarpMoves.j1 kj4 a2 a3 true a0_0 a0_1 l0_2 t762 t763 t764)) = some r := H
    have A33 := Aside0.mk A330
    clear A330
    have HC34 := Aside0.mk H
    clear H
    go_upto_region 7 with (first | ((with_reducible refine gate_dst (N := 9) rfl ?_); (try (refine gate_guard (by rfl) ?_; dsimp only)); refine box_event ?hg (N := 9) ?hd (cs := #[.int .i64 0, .int .i64 0]) (t := 28) ?hr ?_; (case hd => rfl); (case hg => rfl); (case hr => first | (go_simp; done) | (go_simp; rfl)); intro gb756 hg w35 hbox hb; have GW756 := zg HB hg; have GE756 := zg HB hg; have NB753_756 := zn BK753 hg; have NB756_753 := zn' BK753 hg; have n0_ := Aside0.mk (hbox); replace BK753 := zk BK753 hb; replace HB := zb HB hb; have BK756 := n0_; clear n0_; clear hb hbox hg; have hnb36 := NB756_753.out; have hnc36 := NB753_756.out; obtain ⟨hcz37_0, hcz37_1, hfz37_0, hfz37_1⟩ := zq2 BK756) | ((with_reducible refine gate_dst (N := 60) rfl ?_); (try (refine gate_guard (by rfl) ?_; dsimp only)); refine Kd.R_lit k28 _ 28 ?hg (N := 60) ?hd (xs := ([(⟨wrap64 (a2 * 65536), wrap64 (a3 * 65536)⟩ : S28), (⟨wrap64 (a2 * 65536), wrap64 (a3 * 65536)⟩ : S28), (⟨wrap64 (a2 * 65536), wrap64 (a3 * 65536)⟩ : S28), (⟨wrap64 (a2 * 65536), wrap64 (a3 * 65536)⟩ : S28)] : List (S28))) (inner := [.int .i64 (wrap64 (a2 * 65536)), .int .i64 (wrap64 (a3 * 65536)), .int .i64 (wrap64 (a2 * 65536)), .int .i64 (wrap64 (a3 * 65536)), .int .i64 (wrap64 (a2 * 65536)), .int .i64 (wrap64 (a3 * 65536)), .int .i64 (wrap64 (a2 * 65536)), .int .i64 (wrap64 (a3 * 65536))]) (ok := fun _ => True) (okp := fun _ => True) ?hr ?hp (fun _ hk => hk) trivial (Below.refl _ _) (Nat.le_refl _) (by simp) ?_; (case hd => rfl); (case hg => rfl); (case hr => first | (go_simp; done) | (go_simp; rfl)); (case hp => exact (Reps.c2 (show Kd.M k28 _ _ _ (⟨wrap64 (a2 * 65536), wrap64 (a3 * 65536)⟩ : S28) [.int .i64 (wrap64 (a2 * 65536)), .int .i64 (wrap64 (a3 * 65536))] from (k28_mkM _ _ _ (⟨wrap64 (a2 * 65536), wrap64 (a3 * 65536)⟩ : S28) )) (Reps.c2 (show Kd.M k28 _ _ _ (⟨wrap64 (a2 * 65536), wrap64 (a3 * 65536)⟩ : S28) [.int .i64 (wrap64 (a2 * 65536)), .int .i64 (wrap64 (a3 * 65536))] from (k28_mkM _ _ _ (⟨wrap64 (a2 * 65536), wrap64 (a3 * 65536)⟩ : S28) )) (Reps.c2 (show Kd.M k28 _ _ _ (⟨wrap64 (a2 * 65536), wrap64 (a3 * 65536)⟩ : S28) [.int .i64 (wrap64 (a2 * 65536)), .int .i64 (wrap64 (a3 * 65536))] from (k28_mkM _ _ _ (⟨wrap64 (a2 * 65536), wrap64 (a3 * 65536)⟩ : S28) )) (Reps.c2 (show Kd.M k28 _ _ _ (⟨wrap64 (a2 * 65536), wrap64 (a3 * 65536)⟩ : S28) [.int .i64 (wrap64 (a2 * 65536)), .int .i64 (wrap64 (a3 * 65536))] from (k28_mkM _ _ _ (⟨wrap64 (a2 * 65536), wrap64 (a3 * 65536)⟩ : S28) )) (Reps.none _ _)))))); intro v758 w38 ho39 hb hg_ hnew_; clear hg_ hnew_; (first | rw [← Ny757.out] at ho39 | (simp only [Int.reduceToNat] at ho39; rw [← Ny757.out] at ho39)); have n0_ := Aside0.mk (Kd.R_lower (Kd.R_newB ho39 (g := gb756) (o := .cells #[.int .i64 (wrap64 (a2 * 65536)), .int .i64 (wrap64 (a3 * 65536))] 28 (0, 0)) (by exact zp BK756 rfl)) (below_size (by exact zbo HB GE756))); have n1_ := Aside0.mk (blk_below (g := gb756) (o := .cells #[.int .i64 (wrap64 (a2 * 65536)), .int .i64 (wrap64 (a3 * 65536))] 28 (0, 0)) (by exact zp BK756 rfl) hb); have n2_ := Aside0.mk (below_step (by exact zbo HB GE756) hb); replace BK753 := zfk BK753 NB753_756 hb; clear BK756; clear HB; have HO759 := n0_; have BK756 := n1_; have HB := n2_; clear n0_ n1_ n2_; clear hb ho39; obtain ⟨Ao40, co40, eo40⟩ := Kd.R_slice HO759.out; subst eo40; (try clear BK756); have n_ := Aside0.mk (Kd.R_mono (ok' := fun k_ => True) HO759.out (fun k_ hk_ => trivial)); clear HO759; have HO759 := n_; clear n_) | ((with_reducible refine gate_dst (N := 10) rfl ?_); (try (refine gate_guard (by rfl) ?_; dsimp only)); refine box_event ?hg (N := 10) ?hd (cs := #[.int .i64 0, .int .i64 0, .int .i64 0, .slice none 0 0]) (t := 24) ?hr ?_; (case hd => rfl); (case hg => rfl); (case hr => first | (go_simp; done) | (go_simp; rfl)); intro gb760 hg w41 hbox hb; have GW760 := zg HB hg; have GE760 := zg HB hg; have NB753_760 := zn BK753 hg; have NB760_753 := zn' BK753 hg; have n0_ := Aside0.mk (hbox); replace HO759 := zr HO759 hb; replace BK753 := zk BK753 hb; replace HB := zb HB hb; have BK760 := n0_; clear n0_; clear hb hbox hg; have hnb42 := NB760_753.out; have hnc42 := NB753_760.out; obtain ⟨hcz43_0, hcz43_1, hcz43_2, hcz43_3, hfz43_0, hfz43_1, hfz43_2, hfz43_3⟩ := zq4 BK760; obtain ⟨hcz44_0, hcz44_1, hcz44_2, hfz44_0, hfz44_1, hfz44_2⟩ := zq3 BK753) | ((with_reducible refine gate_dst (N := 11) rfl ?_); (try (refine gate_guard (by rfl) ?_; dsimp only)); refine box_event ?hg (N := 11) ?hd (cs := #[.int .i64 0, .int .i64 0, .int .i64 0, .int .i64 0]) (t := 34) ?hr ?_; (case hd => rfl); (case hg => rfl); (case hr => first | (go_simp; done) | (go_simp; rfl)); intro gb761 hg w45 hbox hb; have n0_ := Aside0.mk (Kd.R_below (by exact zro HO759 BK760 (by decide)) hb); have n1_ := Aside0.mk (blk_below (g := gb760) (o := .cells #[.int .i64 2, .int .i64 2, .int .i64 3, .slice Ao40 y757.length co40] 24 (0, 0)) (by exact zp BK760 rfl) hb); have n2_ := Aside0.mk (below_step (by exact zbo HB GE760) hb); have n3_ := Aside0.mk (hbox); have n4_ := Aside0.mk ((by rw [hg]; exact (below_size (by exact zbo HB GE760)) : w.heap.size ≤ gb761)); have n5_ := Aside0.mk ((by rw [hg]; exact (below_size (by exact zbo HB GE760)) : w.heap.size ≤ gb761)); have n6_ := Aside0.mk ((by rw [hg]; exact Nat.ne_of_lt (blk_lt (zf BK753 NB753_760)) : gb753 ≠ gb761)); have n7_ := Aside0.mk ((by rw [hg]; exact Nat.ne_of_gt (blk_lt (zf BK753 NB753_760)) : gb761 ≠ gb753)); have n8_ := Aside0.mk ((by rw [hg]; exact Nat.ne_of_lt (blk_lt (g := gb760) (o := .cells #[.int .i64 2, .int .i64 2, .int .i64 3, .slice Ao40 y757.length co40] 24 (0, 0)) (by exact zp BK760 rfl)) : gb760 ≠ gb761)); have n9_ := Aside0.mk ((by rw [hg]; exact Nat.ne_of_gt (blk_lt (g := gb760) (o := .cells #[.int .i64 2, .int .i64 2, .int .i64 3, .slice Ao40 y757.length co40] 24 (0, 0)) (by exact zp BK760 rfl)) : gb761 ≠ gb760)); replace BK753 := zfk BK753 NB753_760 hb; clear HO759; clear BK760; clear HB; have HO759 := n0_; have BK760 := n1_; have HB := n2_; have BK761 := n3_; have GW761 := n4_; have GE761 := n5_; have NB753_761 := n6_; have NB761_753 := n7_; have NB760_761 := n8_; have NB761_760 := n9_; clear n0_ n1_ n2_ n3_ n4_ n5_ n6_ n7_ n8_ n9_; clear hb hbox hg; have hnb46 := NB761_753.out; have hnc46 := NB753_761.out; have hnb47 := NB761_760.out; have hnc47 := NB760_761.out; obtain ⟨hcz48_0, hcz48_1, hcz48_2, hcz48_3, hfz48_0, hfz48_1, hfz48_2, hfz48_3⟩ := zq4 BK761; obtain ⟨hcz49_0, hcz49_1, hcz49_2, hfz49_0, hfz49_1, hfz49_2⟩ := zq3 BK753; obtain ⟨hcz50_0, hcz50_1, hcz50_2, hcz50_3, hfz50_0, hfz50_1, hfz50_2, hfz50_3⟩ := zq4 BK760) | (go_at_call 19; (with_reducible refine (warp_Draw.calls kj4 a0_0 a0_1 _ _ l0_2 0 0 0 0 a0_0 a0_1 2 2 3 _ _ y757 a1 0 0 a0_0 a0_1 t762 t763 t764 t767 _ ?side1 ?side2 ?side3 ?side4 A33.out).mono ?_); (case side1 => exact Kd.C_below HR0_2.out (by exact zbo HB GE761)); (case side2 => exact HC0_2.out); (case side3 => refine (Kd.R_reads' (e := 28) (base := w.heap.size) (ok := fun k_ => True) (n := y757.length) (c := co40) ?_).2.2; exact (by exact zro HO759 BK761 (by decide))); (case side4 => exact (Kd.R_reads' HO759.out).2.1); rintro e w51 ⟨v765, rfl, ho0, hb⟩; have n0_ := Aside0.mk (Kd.R_below (by exact zro HO759 BK761 (by decide)) hb); have n1_ := Aside0.mk (Kd.R_lower ho0 (below_size (by exact zbo HB GE761))); have n2_ := Aside0.mk (blk_below (g := gb761) (o := .cells #[.int .i64 0, .int .i64 0, .int .i64 a0_0, .int .i64 a0_1] 34 (0, 0)) (by exact zp BK761 rfl) hb); have n3_ := Aside0.mk (below_step (by exact zbo HB GE761) hb); replace BK753 := zfk BK753 NB753_761 hb; replace BK760 := zfk BK760 NB760_761 hb; clear HO759; clear BK761; clear HB; have HO759 := n0_; have HO766 := n1_; have BK761 := n2_; have HB := n3_; clear n0_ n1_ n2_ n3_; (try clear hb); (try clear hb2); (try clear hk); (try clear hi); (try clear ho0); (try clear HO759); (try clear BK760); (try clear BK761)) | ((with_reducible refine gate_dst (N := 12) rfl ?_); (try (refine gate_guard (by rfl) ?_; dsimp only)); refine box_event ?hg (N := 12) ?hd (cs := #[.int .i64 0, .int .i64 0, .slice none 0 0]) (t := 40) ?hr ?_; (case hd => rfl); (case hg => rfl); (case hr => first | (go_simp; done) | (go_simp; rfl)); intro gb768 hg w52 hbox hb; have GW768 := zg HB hg; have GE768 := zg HB hg; have NB753_768 := zn BK753 hg; have NB768_753 := zn' BK753 hg; have n0_ := Aside0.mk (hbox); replace HO766 := zr HO766 hb; replace BK753 := zk BK753 hb; replace HB := zb HB hb; have BK768 := n0_; clear n0_; clear hb hbox hg; have hnb53 := NB768_753.out; have hnc53 := NB753_768.out; obtain ⟨hcz54_0, hcz54_1, hcz54_2, hfz54_0, hfz54_1, hfz54_2⟩ := zq3 BK768; obtain ⟨Ao55, co55, eo55⟩ := Kd.R_slice HO766.out; subst eo55))
    repeat (go_quiet (first | ((with_reducible refine gate_dst (N := 9) rfl ?_); (try (refine gate_guard (by rfl) ?_; dsimp only)); refine box_event ?hg (N := 9) ?hd (cs := #[.int .i64 0, .int .i64 0]) (t := 28) ?hr ?_; (case hd => rfl); (case hg => rfl); (case hr => first | (go_simp; done) | (go_simp; rfl)); intro gb756 hg w35 hbox hb; have GW756 := zg HB hg; have GE756 := zg HB hg; have NB753_756 := zn BK753 hg; have NB756_753 := zn' BK753 hg; have n0_ := Aside0.mk (hbox); replace BK753 := zk BK753 hb; replace HB := zb HB hb; have BK756 := n0_; clear n0_; clear hb hbox hg; have hnb36 := NB756_753.out; have hnc36 := NB753_756.out; obtain ⟨hcz37_0, hcz37_1, hfz37_0, hfz37_1⟩ := zq2 BK756) | ((with_reducible refine gate_dst (N := 60) rfl ?_); (try (refine gate_guard (by rfl) ?_; dsimp only)); refine Kd.R_lit k28 _ 28 ?hg (N := 60) ?hd (xs := ([(⟨wrap64 (a2 * 65536), wrap64 (a3 * 65536)⟩ : S28), (⟨wrap64 (a2 * 65536), wrap64 (a3 * 65536)⟩ : S28), (⟨wrap64 (a2 * 65536), wrap64 (a3 * 65536)⟩ : S28), (⟨wrap64 (a2 * 65536), wrap64 (a3 * 65536)⟩ : S28)] : List (S28))) (inner := [.int .i64 (wrap64 (a2 * 65536)), .int .i64 (wrap64 (a3 * 65536)), .int .i64 (wrap64 (a2 * 65536)), .int .i64 (wrap64 (a3 * 65536)), .int .i64 (wrap64 (a2 * 65536)), .int .i64 (wrap64 (a3 * 65536)), .int .i64 (wrap64 (a2 * 65536)), .int .i64 (wrap64 (a3 * 65536))]) (ok := fun _ => True) (okp := fun _ => True) ?hr ?hp (fun _ hk => hk) trivial (Below.refl _ _) (Nat.le_refl _) (by simp) ?_; (case hd => rfl); (case hg => rfl); (case hr => first | (go_simp; done) | (go_simp; rfl)); (case hp => exact (Reps.c2 (show Kd.M k28 _ _ _ (⟨wrap64 (a2 * 65536), wrap64 (a3 * 65536)⟩ : S28) [.int .i64 (wrap64 (a2 * 65536)), .int .i64 (wrap64 (a3 * 65536))] from (k28_mkM _ _ _ (⟨wrap64 (a2 * 65536), wrap64 (a3 * 65536)⟩ : S28) )) (Reps.c2 (show Kd.M k28 _ _ _ (⟨wrap64 (a2 * 65536), wrap64 (a3 * 65536)⟩ : S28) [.int .i64 (wrap64 (a2 * 65536)), .int .i64 (wrap64 (a3 * 65536))] from (k28_mkM _ _ _ (⟨wrap64 (a2 * 65536), wrap64 (a3 * 65536)⟩ : S28) )) (Reps.c2 (show Kd.M k28 _ _ _ (⟨wrap64 (a2 * 65536), wrap64 (a3 * 65536)⟩ : S28) [.int .i64 (wrap64 (a2 * 65536)), .int .i64 (wrap64 (a3 * 65536))] from (k28_mkM _ _ _ (⟨wrap64 (a2 * 65536), wrap64 (a3 * 65536)⟩ : S28) )) (Reps.c2 (show Kd.M k28 _ _ _ (⟨wrap64 (a2 * 65536), wrap64 (a3 * 65536)⟩ : S28) [.int .i64 (wrap64 (a2 * 65536)), .int .i64 (wrap64 (a3 * 65536))] from (k28_mkM _ _ _ (⟨wrap64 (a2 * 65536), wrap64 (a3 * 65536)⟩ : S28) )) (Reps.none _ _)))))); intro v758 w38 ho39 hb hg_ hnew_; clear hg_ hnew_; (first | rw [← Ny757.out] at ho39 | (simp only [Int.reduceToNat] at ho39; rw [← Ny757.out] at ho39)); have n0_ := Aside0.mk (Kd.R_lower (Kd.R_newB ho39 (g := gb756) (o := .cells #[.int .i64 (wrap64 (a2 * 65536)), .int .i64 (wrap64 (a3 * 65536))] 28 (0, 0)) (by exact zp BK756 rfl)) (below_size (by exact zbo HB GE756))); have n1_ := Aside0.mk (blk_below (g := gb756) (o := .cells #[.int .i64 (wrap64 (a2 * 65536)), .int .i64 (wrap64 (a3 * 65536))] 28 (0, 0)) (by exact zp BK756 rfl) hb); have n2_ := Aside0.mk (below_step (by exact zbo HB GE756) hb); replace BK753 := zfk BK753 NB753_756 hb; clear BK756; clear HB; have HO759 := n0_; have BK756 := n1_; have HB := n2_; clear n0_ n1_ n2_; clear hb ho39; obtain ⟨Ao40, co40, eo40⟩ := Kd.R_slice HO759.out; subst eo40; (try clear BK756); have n_ := Aside0.mk (Kd.R_mono (ok' := fun k_ => True) HO759.out (fun k_ hk_ => trivial)); clear HO759; have HO759 := n_; clear n_) | ((with_reducible refine gate_dst (N := 10) rfl ?_); (try (refine gate_guard (by rfl) ?_; dsimp only)); refine box_event ?hg (N := 10) ?hd (cs := #[.int .i64 0, .int .i64 0, .int .i64 0, .slice none 0 0]) (t := 24) ?hr ?_; (case hd => rfl); (case hg => rfl); (case hr => first | (go_simp; done) | (go_simp; rfl)); intro gb760 hg w41 hbox hb; have GW760 := zg HB hg; have GE760 := zg HB hg; have NB753_760 := zn BK753 hg; have NB760_753 := zn' BK753 hg; have n0_ := Aside0.mk (hbox); replace HO759 := zr HO759 hb; replace BK753 := zk BK753 hb; replace HB := zb HB hb; have BK760 := n0_; clear n0_; clear hb hbox hg; have hnb42 := NB760_753.out; have hnc42 := NB753_760.out; obtain ⟨hcz43_0, hcz43_1, hcz43_2, hcz43_3, hfz43_0, hfz43_1, hfz43_2, hfz43_3⟩ := zq4 BK760; obtain ⟨hcz44_0, hcz44_1, hcz44_2, hfz44_0, hfz44_1, hfz44_2⟩ := zq3 BK753) | ((with_reducible refine gate_dst (N := 11) rfl ?_); (try (refine gate_guard (by rfl) ?_; dsimp only)); refine box_event ?hg (N := 11) ?hd (cs := #[.int .i64 0, .int .i64 0, .int .i64 0, .int .i64 0]) (t := 34) ?hr ?_; (case hd => rfl); (case hg => rfl); (case hr => first | (go_simp; done) | (go_simp; rfl)); intro gb761 hg w45 hbox hb; have n0_ := Aside0.mk (Kd.R_below (by exact zro HO759 BK760 (by decide)) hb); have n1_ := Aside0.mk (blk_below (g := gb760) (o := .cells #[.int .i64 2, .int .i64 2, .int .i64 3, .slice Ao40 y757.length co40] 24 (0, 0)) (by exact zp BK760 rfl) hb); have n2_ := Aside0.mk (below_step (by exact zbo HB GE760) hb); have n3_ := Aside0.mk (hbox); have n4_ := Aside0.mk ((by rw [hg]; exact (below_size (by exact zbo HB GE760)) : w.heap.size ≤ gb761)); have n5_ := Aside0.mk ((by rw [hg]; exact (below_size (by exact zbo HB GE760)) : w.heap.size ≤ gb761)); have n6_ := Aside0.mk ((by rw [hg]; exact Nat.ne_of_lt (blk_lt (zf BK753 NB753_760)) : gb753 ≠ gb761)); have n7_ := Aside0.mk ((by rw [hg]; exact Nat.ne_of_gt (blk_lt (zf BK753 NB753_760)) : gb761 ≠ gb753)); have n8_ := Aside0.mk ((by rw [hg]; exact Nat.ne_of_lt (blk_lt (g := gb760) (o := .cells #[.int .i64 2, .int .i64 2, .int .i64 3, .slice Ao40 y757.length co40] 24 (0, 0)) (by exact zp BK760 rfl)) : gb760 ≠ gb761)); have n9_ := Aside0.mk ((by rw [hg]; exact Nat.ne_of_gt (blk_lt (g := gb760) (o := .cells #[.int .i64 2, .int .i64 2, .int .i64 3, .slice Ao40 y757.length co40] 24 (0, 0)) (by exact zp BK760 rfl)) : gb761 ≠ gb760)); replace BK753 := zfk BK753 NB753_760 hb; clear HO759; clear BK760; clear HB; have HO759 := n0_; have BK760 := n1_; have HB := n2_; have BK761 := n3_; have GW761 := n4_; have GE761 := n5_; have NB753_761 := n6_; have NB761_753 := n7_; have NB760_761 := n8_; have NB761_760 := n9_; clear n0_ n1_ n2_ n3_ n4_ n5_ n6_ n7_ n8_ n9_; clear hb hbox hg; have hnb46 := NB761_753.out; have hnc46 := NB753_761.out; have hnb47 := NB761_760.out; have hnc47 := NB760_761.out; obtain ⟨hcz48_0, hcz48_1, hcz48_2, hcz48_3, hfz48_0, hfz48_1, hfz48_2, hfz48_3⟩ := zq4 BK761; obtain ⟨hcz49_0, hcz49_1, hcz49_2, hfz49_0, hfz49_1, hfz49_2⟩ := zq3 BK753; obtain ⟨hcz50_0, hcz50_1, hcz50_2, hcz50_3, hfz50_0, hfz50_1, hfz50_2, hfz50_3⟩ := zq4 BK760) | (go_at_call 19; (with_reducible refine (warp_Draw.calls kj4 a0_0 a0_1 _ _ l0_2 0 0 0 0 a0_0 a0_1 2 2 3 _ _ y757 a1 0 0 a0_0 a0_1 t762 t763 t764 t767 _ ?side1 ?side2 ?side3 ?side4 A33.out).mono ?_); (case side1 => exact Kd.C_below HR0_2.out (by exact zbo HB GE761)); (case side2 => exact HC0_2.out); (case side3 => refine (Kd.R_reads' (e := 28) (base := w.heap.size) (ok := fun k_ => True) (n := y757.length) (c := co40) ?_).2.2; exact (by exact zro HO759 BK761 (by decide))); (case side4 => exact (Kd.R_reads' HO759.out).2.1); rintro e w51 ⟨v765, rfl, ho0, hb⟩; have n0_ := Aside0.mk (Kd.R_below (by exact zro HO759 BK761 (by decide)) hb); have n1_ := Aside0.mk (Kd.R_lower ho0 (below_size (by exact zbo HB GE761))); have n2_ := Aside0.mk (blk_below (g := gb761) (o := .cells #[.int .i64 0, .int .i64 0, .int .i64 a0_0, .int .i64 a0_1] 34 (0, 0)) (by exact zp BK761 rfl) hb); have n3_ := Aside0.mk (below_step (by exact zbo HB GE761) hb); replace BK753 := zfk BK753 NB753_761 hb; replace BK760 := zfk BK760 NB760_761 hb; clear HO759; clear BK761; clear HB; have HO759 := n0_; have HO766 := n1_; have BK761 := n2_; have HB := n3_; clear n0_ n1_ n2_ n3_; (try clear hb); (try clear hb2); (try clear hk); (try clear hi); (try clear ho0); (try clear HO759); (try clear BK760); (try clear BK761)) | ((with_reducible refine gate_dst (N := 12) rfl ?_); (try (refine gate_guard (by rfl) ?_; dsimp only)); refine box_event ?hg (N := 12) ?hd (cs := #[.int .i64 0, .int .i64 0, .slice none 0 0]) (t := 40) ?hr ?_; (case hd => rfl); (case hg => rfl); (case hr => first | (go_simp; done) | (go_simp; rfl)); intro gb768 hg w52 hbox hb; have GW768 := zg HB hg; have GE768 := zg HB hg; have NB753_768 := zn BK753 hg; have NB768_753 := zn' BK753 hg; have n0_ := Aside0.mk (hbox); replace HO766 := zr HO766 hb; replace BK753 := zk BK753 hb; replace HB := zb HB hb; have BK768 := n0_; clear n0_; clear hb hbox hg; have hnb53 := NB768_753.out; have hnc53 := NB753_768.out; obtain ⟨hcz54_0, hcz54_1, hcz54_2, hfz54_0, hfz54_1, hfz54_2⟩ := zq3 BK768; obtain ⟨Ao55, co55, eo55⟩ := Kd.R_slice HO766.out; subst eo55)); go_upto_region 7 with (first | ((with_reducible refine gate_dst (N := 9) rfl ?_); (try (refine gate_guard (by rfl) ?_; dsimp only)); refine box_event ?hg (N := 9) ?hd (cs := #[.int .i64 0, .int .i64 0]) (t := 28) ?hr ?_; (case hd => rfl); (case hg => rfl); (case hr => first | (go_simp; done) | (go_simp; rfl)); intro gb756 hg w35 hbox hb; have GW756 := zg HB hg; have GE756 := zg HB hg; have NB753_756 := zn BK753 hg; have NB756_753 := zn' BK753 hg; have n0_ := Aside0.mk (hbox); replace BK753 := zk BK753 hb; replace HB := zb HB hb; have BK756 := n0_; clear n0_; clear hb hbox hg; have hnb36 := NB756_753.out; have hnc36 := NB753_756.out; obtain ⟨hcz37_0, hcz37_1, hfz37_0, hfz37_1⟩ := zq2 BK756) | ((with_reducible refine gate_dst (N := 60) rfl ?_); (try (refine gate_guard (by rfl) ?_; dsimp only)); refine Kd.R_lit k28 _ 28 ?hg (N := 60) ?hd (xs := ([(⟨wrap64 (a2 * 65536), wrap64 (a3 * 65536)⟩ : S28), (⟨wrap64 (a2 * 65536), wrap64 (a3 * 65536)⟩ : S28), (⟨wrap64 (a2 * 65536), wrap64 (a3 * 65536)⟩ : S28), (⟨wrap64 (a2 * 65536), wrap64 (a3 * 65536)⟩ : S28)] : List (S28))) (inner := [.int .i64 (wrap64 (a2 * 65536)), .int .i64 (wrap64 (a3 * 65536)), .int .i64 (wrap64 (a2 * 65536)), .int .i64 (wrap64 (a3 * 65536)), .int .i64 (wrap64 (a2 * 65536)), .int .i64 (wrap64 (a3 * 65536)), .int .i64 (wrap64 (a2 * 65536)), .int .i64 (wrap64 (a3 * 65536))]) (ok := fun _ => True) (okp := fun _ => True) ?hr ?hp (fun _ hk => hk) trivial (Below.refl _ _) (Nat.le_refl _) (by simp) ?_; (case hd => rfl); (case hg => rfl); (case hr => first | (go_simp; done) | (go_simp; rfl)); (case hp => exact (Reps.c2 (show Kd.M k28 _ _ _ (⟨wrap64 (a2 * 65536), wrap64 (a3 * 65536)⟩ : S28) [.int .i64 (wrap64 (a2 * 65536)), .int .i64 (wrap64 (a3 * 65536))] from (k28_mkM _ _ _ (⟨wrap64 (a2 * 65536), wrap64 (a3 * 65536)⟩ : S28) )) (Reps.c2 (show Kd.M k28 _ _ _ (⟨wrap64 (a2 * 65536), wrap64 (a3 * 65536)⟩ : S28) [.int .i64 (wrap64 (a2 * 65536)), .int .i64 (wrap64 (a3 * 65536))] from (k28_mkM _ _ _ (⟨wrap64 (a2 * 65536), wrap64 (a3 * 65536)⟩ : S28) )) (Reps.c2 (show Kd.M k28 _ _ _ (⟨wrap64 (a2 * 65536), wrap64 (a3 * 65536)⟩ : S28) [.int .i64 (wrap64 (a2 * 65536)), .int .i64 (wrap64 (a3 * 65536))] from (k28_mkM _ _ _ (⟨wrap64 (a2 * 65536), wrap64 (a3 * 65536)⟩ : S28) )) (Reps.c2 (show Kd.M k28 _ _ _ (⟨wrap64 (a2 * 65536), wrap64 (a3 * 65536)⟩ : S28) [.int .i64 (wrap64 (a2 * 65536)), .int .i64 (wrap64 (a3 * 65536))] from (k28_mkM _ _ _ (⟨wrap64 (a2 * 65536), wrap64 (a3 * 65536)⟩ : S28) )) (Reps.none _ _)))))); intro v758 w38 ho39 hb hg_ hnew_; clear hg_ hnew_; (first | rw [← Ny757.out] at ho39 | (simp only [Int.reduceToNat] at ho39; rw [← Ny757.out] at ho39)); have n0_ := Aside0.mk (Kd.R_lower (Kd.R_newB ho39 (g := gb756) (o := .cells #[.int .i64 (wrap64 (a2 * 65536)), .int .i64 (wrap64 (a3 * 65536))] 28 (0, 0)) (by exact zp BK756 rfl)) (below_size (by exact zbo HB GE756))); have n1_ := Aside0.mk (blk_below (g := gb756) (o := .cells #[.int .i64 (wrap64 (a2 * 65536)), .int .i64 (wrap64 (a3 * 65536))] 28 (0, 0)) (by exact zp BK756 rfl) hb); have n2_ := Aside0.mk (below_step (by exact zbo HB GE756) hb); replace BK753 := zfk BK753 NB753_756 hb; clear BK756; clear HB; have HO759 := n0_; have BK756 := n1_; have HB := n2_; clear n0_ n1_ n2_; clear hb ho39; obtain ⟨Ao40, co40, eo40⟩ := Kd.R_slice HO759.out; subst eo40; (try clear BK756); have n_ := Aside0.mk (Kd.R_mono (ok' := fun k_ => True) HO759.out (fun k_ hk_ => trivial)); clear HO759; have HO759 := n_; clear n_) | ((with_reducible refine gate_dst (N := 10) rfl ?_); (try (refine gate_guard (by rfl) ?_; dsimp only)); refine box_event ?hg (N := 10) ?hd (cs := #[.int .i64 0, .int .i64 0, .int .i64 0, .slice none 0 0]) (t := 24) ?hr ?_; (case hd => rfl); (case hg => rfl); (case hr => first | (go_simp; done) | (go_simp; rfl)); intro gb760 hg w41 hbox hb; have GW760 := zg HB hg; have GE760 := zg HB hg; have NB753_760 := zn BK753 hg; have NB760_753 := zn' BK753 hg; have n0_ := Aside0.mk (hbox); replace HO759 := zr HO759 hb; replace BK753 := zk BK753 hb; replace HB := zb HB hb; have BK760 := n0_; clear n0_; clear hb hbox hg; have hnb42 := NB760_753.out; have hnc42 := NB753_760.out; obtain ⟨hcz43_0, hcz43_1, hcz43_2, hcz43_3, hfz43_0, hfz43_1, hfz43_2, hfz43_3⟩ := zq4 BK760; obtain ⟨hcz44_0, hcz44_1, hcz44_2, hfz44_0, hfz44_1, hfz44_2⟩ := zq3 BK753) | ((with_reducible refine gate_dst (N := 11) rfl ?_); (try (refine gate_guard (by rfl) ?_; dsimp only)); refine box_event ?hg (N := 11) ?hd (cs := #[.int .i64 0, .int .i64 0, .int .i64 0, .int .i64 0]) (t := 34) ?hr ?_; (case hd => rfl); (case hg => rfl); (case hr => first | (go_simp; done) | (go_simp; rfl)); intro gb761 hg w45 hbox hb; have n0_ := Aside0.mk (Kd.R_below (by exact zro HO759 BK760 (by decide)) hb); have n1_ := Aside0.mk (blk_below (g := gb760) (o := .cells #[.int .i64 2, .int .i64 2, .int .i64 3, .slice Ao40 y757.length co40] 24 (0, 0)) (by exact zp BK760 rfl) hb); have n2_ := Aside0.mk (below_step (by exact zbo HB GE760) hb); have n3_ := Aside0.mk (hbox); have n4_ := Aside0.mk ((by rw [hg]; exact (below_size (by exact zbo HB GE760)) : w.heap.size ≤ gb761)); have n5_ := Aside0.mk ((by rw [hg]; exact (below_size (by exact zbo HB GE760)) : w.heap.size ≤ gb761)); have n6_ := Aside0.mk ((by rw [hg]; exact Nat.ne_of_lt (blk_lt (zf BK753 NB753_760)) : gb753 ≠ gb761)); have n7_ := Aside0.mk ((by rw [hg]; exact Nat.ne_of_gt (blk_lt (zf BK753 NB753_760)) : gb761 ≠ gb753)); have n8_ := Aside0.mk ((by rw [hg]; exact Nat.ne_of_lt (blk_lt (g := gb760) (o := .cells #[.int .i64 2, .int .i64 2, .int .i64 3, .slice Ao40 y757.length co40] 24 (0, 0)) (by exact zp BK760 rfl)) : gb760 ≠ gb761)); have n9_ := Aside0.mk ((by rw [hg]; exact Nat.ne_of_gt (blk_lt (g := gb760) (o := .cells #[.int .i64 2, .int .i64 2, .int .i64 3, .slice Ao40 y757.length co40] 24 (0, 0)) (by exact zp BK760 rfl)) : gb761 ≠ gb760)); replace BK753 := zfk BK753 NB753_760 hb; clear HO759; clear BK760; clear HB; have HO759 := n0_; have BK760 := n1_; have HB := n2_; have BK761 := n3_; have GW761 := n4_; have GE761 := n5_; have NB753_761 := n6_; have NB761_753 := n7_; have NB760_761 := n8_; have NB761_760 := n9_; clear n0_ n1_ n2_ n3_ n4_ n5_ n6_ n7_ n8_ n9_; clear hb hbox hg; have hnb46 := NB761_753.out; have hnc46 := NB753_761.out; have hnb47 := NB761_760.out; have hnc47 := NB760_761.out; obtain ⟨hcz48_0, hcz48_1, hcz48_2, hcz48_3, hfz48_0, hfz48_1, hfz48_2, hfz48_3⟩ := zq4 BK761; obtain ⟨hcz49_0, hcz49_1, hcz49_2, hfz49_0, hfz49_1, hfz49_2⟩ := zq3 BK753; obtain ⟨hcz50_0, hcz50_1, hcz50_2, hcz50_3, hfz50_0, hfz50_1, hfz50_2, hfz50_3⟩ := zq4 BK760) | (go_at_call 19; (with_reducible refine (warp_Draw.calls kj4 a0_0 a0_1 _ _ l0_2 0 0 0 0 a0_0 a0_1 2 2 3 _ _ y757 a1 0 0 a0_0 a0_1 t762 t763 t764 t767 _ ?side1 ?side2 ?side3 ?side4 A33.out).mono ?_); (case side1 => exact Kd.C_below HR0_2.out (by exact zbo HB GE761)); (case side2 => exact HC0_2.out); (case side3 => refine (Kd.R_reads' (e := 28) (base := w.heap.size) (ok := fun k_ => True) (n := y757.length) (c := co40) ?_).2.2; exact (by exact zro HO759 BK761 (by decide))); (case side4 => exact (Kd.R_reads' HO759.out).2.1); rintro e w51 ⟨v765, rfl, ho0, hb⟩; have n0_ := Aside0.mk (Kd.R_below (by exact zro HO759 BK761 (by decide)) hb); have n1_ := Aside0.mk (Kd.R_lower ho0 (below_size (by exact zbo HB GE761))); have n2_ := Aside0.mk (blk_below (g := gb761) (o := .cells #[.int .i64 0, .int .i64 0, .int .i64 a0_0, .int .i64 a0_1] 34 (0, 0)) (by exact zp BK761 rfl) hb); have n3_ := Aside0.mk (below_step (by exact zbo HB GE761) hb); replace BK753 := zfk BK753 NB753_761 hb; replace BK760 := zfk BK760 NB760_761 hb; clear HO759; clear BK761; clear HB; have HO759 := n0_; have HO766 := n1_; have BK761 := n2_; have HB := n3_; clear n0_ n1_ n2_ n3_; (try clear hb); (try clear hb2); (try clear hk); (try clear hi); (try clear ho0); (try clear HO759); (try clear BK760); (try clear BK761)) | ((with_reducible refine gate_dst (N := 12) rfl ?_); (try (refine gate_guard (by rfl) ?_; dsimp only)); refine box_event ?hg (N := 12) ?hd (cs := #[.int .i64 0, .int .i64 0, .slice none 0 0]) (t := 40) ?hr ?_; (case hd => rfl); (case hg => rfl); (case hr => first | (go_simp; done) | (go_simp; rfl)); intro gb768 hg w52 hbox hb; have GW768 := zg HB hg; have GE768 := zg HB hg; have NB753_768 := zn BK753 hg; have NB768_753 := zn' BK753 hg; have n0_ := Aside0.mk (hbox); replace HO766 := zr HO766 hb; replace BK753 := zk BK753 hb; replace HB := zb HB hb; have BK768 := n0_; clear n0_; clear hb hbox hg; have hnb53 := NB768_753.out; have hnc53 := NB753_768.out; obtain ⟨hcz54_0, hcz54_1, hcz54_2, hfz54_0, hfz54_1, hfz54_2⟩ := zq3 BK768; obtain ⟨Ao55, co55, eo55⟩ := Kd.R_slice HO766.out; subst eo55)))
    (try simp only [Act.put, sA, sB, sC])
    go_cut [101] (fun v101 wc => ∃ (kq : Nat) (x101_33 : Bool), v101 = .bool x101_33 ∧ Aside0 (imageeditorlaw15_WarpMoves.j1 kq a2 a3 x101_33 a0_0 a0_1 l0_2 t762 t763 t764 = some r) ∧ Aside0 (kq ≤ kj4) ∧ Aside0 (Kd.R k48 48 wc w.heap.size (fun _ => True) (.slice Ao55 t764.length co55) t764) ∧ Aside0 (wc.heap[gb753]? = some (.cells #[.int .i64 a0_0, .int .i64 a0_1, (.slice A0_2 l0_2.length c0_2)] 40 (0, 0))) ∧ Aside0 (wc.heap[gb768]? = some (.cells #[.int .i64 t762, .int .i64 t763, (.slice Ao55 t764.length co55)] 40 (0, 0))) ∧ Aside0 (Below w.heap.size w wc))
    case first =>
     have H := HC34.out
     clear HC34
     by_cases c56 : t767 = 0
     ·rw [if_pos c56] at H
      have c56b0 : (t767 == 0) = true := beq_iff_eq.mpr c56
      have c56b1 : (t767 != 0) = false := bne_eq_false_iff_eq.mpr c56
      clear c56
      (first | rw [c56b0] | (simp only [i64_w, i32_w]; rw [c56b0]) | skip)
      by_cases c57 : t762 = a0_0
      ·rw [if_pos c57] at H
       have c57b0 : (t762 == a0_0) = true := beq_iff_eq.mpr c57
       have c57b1 : (t762 != a0_0) = false := bne_eq_false_iff_eq.mpr c57
       clear c57
       by_cases c58 : t763 = a0_1
       ·rw [if_pos c58] at H
        have c58b0 : (t763 == a0_1) = true := beq_iff_eq.mpr c58
        have c58b1 : (t763 != a0_1) = false := bne_eq_false_iff_eq.mpr c58
        clear c58
        as_aux_lemma =>
         have H' := Aside0.mk H
         clear H
         obtain ⟨hcz59_0, hcz59_1, hcz59_2, hfz59_0, hfz59_1, hfz59_2⟩ := zq3 BK768
         obtain ⟨hcz60_0, hcz60_1, hcz60_2, hfz60_0, hfz60_1, hfz60_2⟩ := zq3 BK753
         go_wp2
         repeat (go_quiet (fail); try go_wp2)
         go_meet
         case rel => exact ⟨_, (((t764.length : Int) != (l0_2.length : Int))), (by first | rfl | (simp; done) | (simp [*]; done)), H', ⟨by have := HJ4.out; first | omega | exact Nat.le_refl _⟩, ⟨by exact zro HO766 BK768 (by decide)⟩, ⟨by exact zf BK753 NB753_768⟩, ⟨by exact zp BK768 rfl⟩, ⟨by exact zbo HB GE768⟩⟩
       ·rw [if_neg c58] at H
        have c58b0 : (t763 == a0_1) = false := beq_eq_false_iff_ne.mpr c58
        have c58b1 : (t763 != a0_1) = true := bne_iff_ne.mpr c58
        as_aux_lemma =>
         have H' := Aside0.mk H
         clear H
         obtain ⟨hcz61_0, hcz61_1, hcz61_2, hfz61_0, hfz61_1, hfz61_2⟩ := zq3 BK768
         obtain ⟨hcz62_0, hcz62_1, hcz62_2, hfz62_0, hfz62_1, hfz62_2⟩ := zq3 BK753
         go_wp2
         repeat (go_quiet (fail); try go_wp2)
         go_meet
         case rel => exact ⟨_, (true), (by first | rfl | (simp; done) | (simp [*]; done)), H', ⟨by have := HJ4.out; first | omega | exact Nat.le_refl _⟩, ⟨by exact zro HO766 BK768 (by decide)⟩, ⟨by exact zf BK753 NB753_768⟩, ⟨by exact zp BK768 rfl⟩, ⟨by exact zbo HB GE768⟩⟩
      ·rw [if_neg c57] at H
       have c57b0 : (t762 == a0_0) = false := beq_eq_false_iff_ne.mpr c57
       have c57b1 : (t762 != a0_0) = true := bne_iff_ne.mpr c57
       as_aux_lemma =>
        have H' := Aside0.mk H
        clear H
        obtain ⟨hcz63_0, hcz63_1, hcz63_2, hfz63_0, hfz63_1, hfz63_2⟩ := zq3 BK768
        obtain ⟨hcz64_0, hcz64_1, hcz64_2, hfz64_0, hfz64_1, hfz64_2⟩ := zq3 BK753
        go_wp2
        repeat (go_quiet (fail); try go_wp2)
        go_meet
        case rel => exact ⟨_, (true), (by first | rfl | (simp; done) | (simp [*]; done)), H', ⟨by have := HJ4.out; first | omega | exact Nat.le_refl _⟩, ⟨by exact zro HO766 BK768 (by decide)⟩, ⟨by exact zf BK753 NB753_768⟩, ⟨by exact zp BK768 rfl⟩, ⟨by exact zbo HB GE768⟩⟩
     ·rw [if_neg c56] at H
      have c56b0 : (t767 == 0) = false := beq_eq_false_iff_ne.mpr c56
      have c56b1 : (t767 != 0) = true := bne_iff_ne.mpr c56
      (first | rw [c56b0] | (simp only [i64_w, i32_w]; rw [c56b0]) | skip)
      as_aux_lemma =>
       have H' := Aside0.mk H
       clear H
       go_wp2
       repeat (go_quiet (fail); try go_wp2)
       go_meet
       case rel => exact ⟨_, (true), (by first | rfl | (simp; done) | (simp [*]; done)), H', ⟨by have := HJ4.out; first | omega | exact Nat.le_refl _⟩, ⟨by exact zro HO766 BK768 (by decide)⟩, ⟨by exact zf BK753 NB753_768⟩, ⟨by exact zp BK768 rfl⟩, ⟨by exact zbo HB GE768⟩⟩
    case rest =>
     clear HC34
     try clear c1
     try clear c2
     try clear p2
     try clear q2
     try clear c3
     try clear q3
     try clear c4
     try clear q4
     try clear c5
     try clear p6
     try clear c7
     try clear c7b0
     try clear c7b1
     try clear c7b2
     try clear c10
     try clear c10b0
     try clear c10b1
     try clear c11
     try clear c11b0
     try clear c14
     try clear c14b0
     try clear c17
     try clear c17b0
     try clear c20
     try clear c20b0
     try clear c23
     try clear c23b0
     try clear c30
     try clear c36
     try clear c42
     try clear c46
     try clear c47
     try clear c53
     try clear c56
     try clear c56b0
     try clear c56b1
     try clear c57
     try clear c57b0
     try clear c57b1
     try clear c58
     try clear c58b0
     try clear c58b1
     try clear p64
     try clear hcz12_0
     try clear hcz12_1
     try clear hcz12_2
     try clear hcz15_0
     try clear hcz15_1
     try clear hcz15_2
     try clear hcz18_0
     try clear hcz18_1
     try clear hcz18_2
     try clear hcz21_0
     try clear hcz21_1
     try clear hcz21_2
     try clear hcz24_0
     try clear hcz24_1
     try clear hcz24_2
     try clear hcz26_0
     try clear hcz26_1
     try clear hcz26_2
     try clear hcz28_0
     try clear hcz28_1
     try clear hcz28_2
     try clear hcz37_0
     try clear hcz37_1
     try clear hcz43_0
     try clear hcz43_1
     try clear hcz43_2
     try clear hcz43_3
     try clear hcz44_0
     try clear hcz44_1
     try clear hcz44_2
     try clear hcz48_0
     try clear hcz48_1
     try clear hcz48_2
     try clear hcz48_3
     try clear hcz49_0
     try clear hcz49_1
     try clear hcz49_2
     try clear hcz50_0
     try clear hcz50_1
     try clear hcz50_2
     try clear hcz50_3
     try clear hcz54_0
     try clear hcz54_1
     try clear hcz54_2
     try clear hcz59_0
     try clear hcz59_1
     try clear hcz59_2
     try clear hcz60_0
     try clear hcz60_1
     try clear hcz60_2
     try clear hcz61_0
     try clear hcz61_1
     try clear hcz61_2
     try clear hcz62_0
     try clear hcz62_1
     try clear hcz62_2
     try clear hcz63_0
     try clear hcz63_1
     try clear hcz63_2
     try clear hcz64_0
     try clear hcz64_1
     try clear hcz64_2
     try clear hcz8_0
     try clear hcz8_1
     try clear hcz8_2
     try clear hfz12_0
     try clear hfz12_1
     try clear hfz12_2
     try clear hfz15_0
     try clear hfz15_1
     try clear hfz15_2
     try clear hfz18_0
     try clear hfz18_1
     try clear hfz18_2
     try clear hfz21_0
     try clear hfz21_1
     try clear hfz21_2
     try clear hfz24_0
     try clear hfz24_1
     try clear hfz24_2
     try clear hfz26_0
     try clear hfz26_1
     try clear hfz26_2
     try clear hfz28_0
     try clear hfz28_1
     try clear hfz28_2
     try clear hfz37_0
     try clear hfz37_1
     try clear hfz43_0
     try clear hfz43_1
     try clear hfz43_2
     try clear hfz43_3
     try clear hfz44_0
     try clear hfz44_1
     try clear hfz44_2
     try clear hfz48_0
     try clear hfz48_1
     try clear hfz48_2
     try clear hfz48_3
     try clear hfz49_0
     try clear hfz49_1
     try clear hfz49_2
     try clear hfz50_0
     try clear hfz50_1
     try clear hfz50_2
     try clear hfz50_3
     try clear hfz54_0
     try clear hfz54_1
     try clear hfz54_2
     try clear hfz59_0
     try clear hfz59_1
     try clear hfz59_2
     try clear hfz60_0
     try clear hfz60_1
     try clear hfz60_2
     try clear hfz61_0
     try clear hfz61_1
     try clear hfz61_2
     try clear hfz62_0
     try clear hfz62_1
     try clear hfz62_2
     try clear hfz63_0
     try clear hfz63_1
     try clear hfz63_2
     try clear hfz64_0
     try clear hfz64_1
     try clear hfz64_2
     try clear hfz8_0
     try clear hfz8_1
     try clear hfz8_2
     try clear p2
     try clear q3
     obtain ⟨kq, x101_33, rfl, HA, HJ33, HO_769002, BK753, BK768, HB⟩ := hcut
     cases kq with
     | zero => exact absurd HA.out (by simp [imageeditorlaw15_WarpMoves.j1])
     | succ kj33 =>
      have H := HA.out
      clear HA
      simp only [imageeditorlaw15_WarpMoves.j1] at H
      by_cases c65 : x101_33 = true
      ·subst c65
       have H1 : (some false) = some r := by rw [if_pos rfl] at H; exact H
       clear H
       have H := H1
       clear H1
       as_aux_lemma =>
        exact absurd HT.out (by rw [← Option.some.inj H]; decide)
      ·replace c65 := Bool.eq_false_iff.mpr c65
       subst c65
       have H1 : (imageeditorlaw15_WarpMoves.l0 kj33 a2 a3 a0_1 0 a0_0 a0_1 l0_2 t762 t763 t764) = some r := by rw [if_neg (show ¬ (false = true) by decide)] at H; exact H
       clear H
       have H := H1
       clear H1
       have H' := Aside0.mk H
       clear H
       obtain ⟨hcz66_0, hcz66_1, hcz66_2, hfz66_0, hfz66_1, hfz66_2⟩ := zq3 BK753
       go_wp2
       repeat (go_quiet (fail); try go_wp2)
       go_loopg [104] kj33 (fun kq v104 w' => ∃ (x104_3 : Int), v104 = .int .i64 x104_3 ∧ Aside0 (imageeditorlaw15_WarpMoves.l0 kq a2 a3 a0_1 x104_3 a0_0 a0_1 l0_2 t762 t763 t764 = some r) ∧ Aside0 (kq ≤ kj33) ∧ Aside0 (Kd.R k48 48 w' w.heap.size (fun _ => True) (.slice Ao55 t764.length co55) t764) ∧ Aside0 (w'.heap[gb753]? = some (.cells #[.int .i64 a0_0, .int .i64 a0_1, (.slice A0_2 l0_2.length c0_2)] 40 (0, 0))) ∧ Aside0 (w'.heap[gb768]? = some (.cells #[.int .i64 t762, .int .i64 t763, (.slice Ao55 t764.length co55)] 40 (0, 0))) ∧ Aside0 (Below w.heap.size w w'))
       case atStart => exact ⟨(0), (by first | rfl | (simp; done) | (simp [*]; done)), H', ⟨Nat.le_refl _⟩, ⟨by exact zr0 HO_769002⟩, ⟨by exact zk0 BK753⟩, ⟨by exact zk0 BK768⟩, ⟨by exact zb0 HB⟩⟩
       case round =>
        clear H'
        try clear c1
        try clear c2
        try clear p2
        try clear q2
        try clear c3
        try clear q3
        try clear c4
        try clear q4
        try clear c5
        try clear c6
        try clear p6
        try clear c7
        try clear c7b0
        try clear c7b1
        try clear c7b2
        try clear c10
        try clear c10b0
        try clear c10b1
        try clear c11
        try clear c11b0
        try clear c14
        try clear c14b0
        try clear c17
        try clear c17b0
        try clear c20
        try clear c20b0
        try clear c23
        try clear c23b0
        try clear c30
        try clear c36
        try clear c42
        try clear c46
        try clear c47
        try clear c53
        try clear c56
        try clear c56b0
        try clear c56b1
        try clear c57
        try clear c57b0
        try clear c57b1
        try clear c58
        try clear c58b0
        try clear c58b1
        try clear p64
        try clear c65
        try clear hcz12_0
        try clear hcz12_1
        try clear hcz12_2
        try clear hcz15_0
        try clear hcz15_1
        try clear hcz15_2
        try clear hcz18_0
        try clear hcz18_1
        try clear hcz18_2
        try clear hcz21_0
        try clear hcz21_1
        try clear hcz21_2
        try clear hcz24_0
        try clear hcz24_1
        try clear hcz24_2
        try clear hcz26_0
        try clear hcz26_1
        try clear hcz26_2
        try clear hcz28_0
        try clear hcz28_1
        try clear hcz28_2
        try clear hcz37_0
        try clear hcz37_1
        try clear hcz43_0
        try clear hcz43_1
        try clear hcz43_2
        try clear hcz43_3
        try clear hcz44_0
        try clear hcz44_1
        try clear hcz44_2
        try clear hcz48_0
        try clear hcz48_1
        try clear hcz48_2
        try clear hcz48_3
        try clear hcz49_0
        try clear hcz49_1
        try clear hcz49_2
        try clear hcz50_0
        try clear hcz50_1
        try clear hcz50_2
        try clear hcz50_3
        try clear hcz54_0
        try clear hcz54_1
        try clear hcz54_2
        try clear hcz59_0
        try clear hcz59_1
        try clear hcz59_2
        try clear hcz60_0
        try clear hcz60_1
        try clear hcz60_2
        try clear hcz61_0
        try clear hcz61_1
        try clear hcz61_2
        try clear hcz62_0
        try clear hcz62_1
        try clear hcz62_2
        try clear hcz63_0
        try clear hcz63_1
        try clear hcz63_2
        try clear hcz64_0
        try clear hcz64_1
        try clear hcz64_2
        try clear hcz66_0
        try clear hcz66_1
        try clear hcz66_2
        try clear hcz8_0
        try clear hcz8_1
        try clear hcz8_2
        try clear hfz12_0
        try clear hfz12_1
        try clear hfz12_2
        try clear hfz15_0
        try clear hfz15_1
        try clear hfz15_2
        try clear hfz18_0
        try clear hfz18_1
        try clear hfz18_2
        try clear hfz21_0
        try clear hfz21_1
        try clear hfz21_2
        try clear hfz24_0
        try clear hfz24_1
        try clear hfz24_2
        try clear hfz26_0
        try clear hfz26_1
        try clear hfz26_2
        try clear hfz28_0
        try clear hfz28_1
        try clear hfz28_2
        try clear hfz37_0
        try clear hfz37_1
        try clear hfz43_0
        try clear hfz43_1
        try clear hfz43_2
        try clear hfz43_3
        try clear hfz44_0
        try clear hfz44_1
        try clear hfz44_2
        try clear hfz48_0
        try clear hfz48_1
        try clear hfz48_2
        try clear hfz48_3
        try clear hfz49_0
        try clear hfz49_1
        try clear hfz49_2
        try clear hfz50_0
        try clear hfz50_1
        try clear hfz50_2
        try clear hfz50_3
        try clear hfz54_0
        try clear hfz54_1
        try clear hfz54_2
        try clear hfz59_0
        try clear hfz59_1
        try clear hfz59_2
        try clear hfz60_0
        try clear hfz60_1
        try clear hfz60_2
        try clear hfz61_0
        try clear hfz61_1
        try clear hfz61_2
        try clear hfz62_0
        try clear hfz62_1
        try clear hfz62_2
        try clear hfz63_0
        try clear hfz63_1
        try clear hfz63_2
        try clear hfz64_0
        try clear hfz64_1
        try clear hfz64_2
        try clear hfz66_0
        try clear hfz66_1
        try clear hfz66_2
        try clear hfz8_0
        try clear hfz8_1
        try clear hfz8_2
        try clear p2
        try clear p6
        try clear p64
        try clear q2
        try clear q3
        try clear q4
        obtain ⟨x104_3, rfl, HA, HK3, HO_769002, BK753, BK768, HB⟩ := hrel
        cases gk with
        | zero => exact absurd HA.out (by simp [imageeditorlaw15_WarpMoves.l0])
        | succ k3 =>
         have H := HA.out
         clear HA
         simp only [imageeditorlaw15_WarpMoves.l0] at H
         by_cases c67 : x104_3 < a0_1
         ·rw [if_pos c67] at H
          have c67b0 : decide (x104_3 < a0_1) = true := decide_eq_true c67
          clear c67
          have H' := Aside0.mk H
          clear H
          obtain ⟨hcz68_0, hcz68_1, hcz68_2, hfz68_0, hfz68_1, hfz68_2⟩ := zq3 BK753
          go_wp2
          repeat (go_quiet (fail); try go_wp2)
          go_loopg [109] k3 (fun kq v109 w' => ∃ (x109_4 : Int), v109 = .int .i64 x109_4 ∧ Aside0 (imageeditorlaw15_WarpMoves.l1 kq a2 a3 x104_3 a0_1 x104_3 a0_0 x109_4 a0_0 a0_1 l0_2 t762 t763 t764 = some r) ∧ Aside0 (kq ≤ k3) ∧ Aside0 (Kd.R k48 48 w' w.heap.size (fun _ => True) (.slice Ao55 t764.length co55) t764) ∧ Aside0 (w'.heap[gb753]? = some (.cells #[.int .i64 a0_0, .int .i64 a0_1, (.slice A0_2 l0_2.length c0_2)] 40 (0, 0))) ∧ Aside0 (w'.heap[gb768]? = some (.cells #[.int .i64 t762, .int .i64 t763, (.slice Ao55 t764.length co55)] 40 (0, 0))) ∧ Aside0 (Below w.heap.size w w'))
          case atStart => exact ⟨(0), (by first | rfl | (simp; done) | (simp [*]; done)), H', ⟨Nat.le_refl _⟩, ⟨by exact zr0 HO_769002⟩, ⟨by exact zk0 BK753⟩, ⟨by exact zk0 BK768⟩, ⟨by exact zb0 HB⟩⟩
          case round =>
           clear H'
           try clear c1
           try clear c2
           try clear p2
           try clear q2
           try clear c3
           try clear q3
           try clear c4
           try clear q4
           try clear c5
           try clear c6
           try clear p6
           try clear c7
           try clear c7b0
           try clear c7b1
           try clear c7b2
           try clear c10
           try clear c10b0
           try clear c10b1
           try clear c11
           try clear c11b0
           try clear c14
           try clear c14b0
           try clear c17
           try clear c17b0
           try clear c20
           try clear c20b0
           try clear c23
           try clear c23b0
           try clear c30
           try clear c36
           try clear c42
           try clear c46
           try clear c47
           try clear c53
           try clear c56
           try clear c56b0
           try clear c56b1
           try clear c57
           try clear c57b0
           try clear c57b1
           try clear c58
           try clear c58b0
           try clear c58b1
           try clear p64
           try clear c65
           try clear c67
           try clear c67b0
           try clear hcz12_0
           try clear hcz12_1
           try clear hcz12_2
           try clear hcz15_0
           try clear hcz15_1
           try clear hcz15_2
           try clear hcz18_0
           try clear hcz18_1
           try clear hcz18_2
           try clear hcz21_0
           try clear hcz21_1
           try clear hcz21_2
           try clear hcz24_0
           try clear hcz24_1
           try clear hcz24_2
           try clear hcz26_0
           try clear hcz26_1
           try clear hcz26_2
           try clear hcz28_0
           try clear hcz28_1
           try clear hcz28_2
           try clear hcz37_0
           try clear hcz37_1
           try clear hcz43_0
           try clear hcz43_1
           try clear hcz43_2
           try clear hcz43_3
           try clear hcz44_0
           try clear hcz44_1
           try clear hcz44_2
           try clear hcz48_0
           try clear hcz48_1
           try clear hcz48_2
           try clear hcz48_3
           try clear hcz49_0
           try clear hcz49_1
           try clear hcz49_2
           try clear hcz50_0
           try clear hcz50_1
           try clear hcz50_2
           try clear hcz50_3
           try clear hcz54_0
           try clear hcz54_1
           try clear hcz54_2
           try clear hcz59_0
           try clear hcz59_1
           try clear hcz59_2
           try clear hcz60_0
           try clear hcz60_1
           try clear hcz60_2
           try clear hcz61_0
           try clear hcz61_1
           try clear hcz61_2
           try clear hcz62_0
           try clear hcz62_1
           try clear hcz62_2
           try clear hcz63_0
           try clear hcz63_1
           try clear hcz63_2
           try clear hcz64_0
           try clear hcz64_1
           try clear hcz64_2
           try clear hcz66_0
           try clear hcz66_1
           try clear hcz66_2
           try clear hcz68_0
           try clear hcz68_1
           try clear hcz68_2
           try clear hcz8_0
           try clear hcz8_1
           try clear hcz8_2
           try clear hfz12_0
           try clear hfz12_1
           try clear hfz12_2
           try clear hfz15_0
           try clear hfz15_1
           try clear hfz15_2
           try clear hfz18_0
           try clear hfz18_1
           try clear hfz18_2
           try clear hfz21_0
           try clear hfz21_1
           try clear hfz21_2
           try clear hfz24_0
           try clear hfz24_1
           try clear hfz24_2
           try clear hfz26_0
           try clear hfz26_1
           try clear hfz26_2
           try clear hfz28_0
           try clear hfz28_1
           try clear hfz28_2
           try clear hfz37_0
           try clear hfz37_1
           try clear hfz43_0
           try clear hfz43_1
           try clear hfz43_2
           try clear hfz43_3
           try clear hfz44_0
           try clear hfz44_1
           try clear hfz44_2
           try clear hfz48_0
           try clear hfz48_1
           try clear hfz48_2
           try clear hfz48_3
           try clear hfz49_0
           try clear hfz49_1
           try clear hfz49_2
           try clear hfz50_0
           try clear hfz50_1
           try clear hfz50_2
           try clear hfz50_3
           try clear hfz54_0
           try clear hfz54_1
           try clear hfz54_2
           try clear hfz59_0
           try clear hfz59_1
           try clear hfz59_2
           try clear hfz60_0
           try clear hfz60_1
           try clear hfz60_2
           try clear hfz61_0
           try clear hfz61_1
           try clear hfz61_2
           try clear hfz62_0
           try clear hfz62_1
           try clear hfz62_2
           try clear hfz63_0
           try clear hfz63_1
           try clear hfz63_2
           try clear hfz64_0
           try clear hfz64_1
           try clear hfz64_2
           try clear hfz66_0
           try clear hfz66_1
           try clear hfz66_2
           try clear hfz68_0
           try clear hfz68_1
           try clear hfz68_2
           try clear hfz8_0
           try clear hfz8_1
           try clear hfz8_2
           try clear p2
           try clear p6
           try clear p64
           try clear q2
           try clear q3
           try clear q4
           obtain ⟨x109_4, rfl, HA, HK4, HO_769002, BK753, BK768, HB⟩ := hrel
           cases gk with
           | zero => exact absurd HA.out (by simp [imageeditorlaw15_WarpMoves.l1])
           | succ k4 =>
            have H := HA.out
            clear HA
            simp only [imageeditorlaw15_WarpMoves.l1] at H
            by_cases c69 : x109_4 < a0_0
            ·rw [if_pos c69] at H
             have c69b0 : decide (x109_4 < a0_0) = true := decide_eq_true c69
             clear c69
             replace H := Option.bind_eq_some_iff.mp H
             obtain ⟨⟨t770, t771, t772, t773⟩, A700, H⟩ := H
             replace H : (if t773 = 0 then (if 0 ≤ (wrap64 ((wrap64 (x104_3 * a0_0)) + x109_4)) then (if (wrap64 ((wrap64 (x104_3 * a0_0)) + x109_4)) < (t764.length : Int) then (if (!(((rd_T48 t764 (wrap64 ((wrap64 (x104_3 * a0_0)) + x109_4))).f0) == 0) || (!(((rd_T48 t764 (wrap64 ((wrap64 (x104_3 * a0_0)) + x109_4))).f1) == 0) || (!(((rd_T48 t764 (wrap64 ((wrap64 (x104_3 * a0_0)) + x109_4))).f2) == 0) || (!(((rd_T48 t764 (wrap64 ((wrap64 (x104_3 * a0_0)) + x109_4))).f3) == 0))))) = true then (some false) else (imageeditorlaw15_WarpMoves.l1 k4 a2 a3 x104_3 a0_1 x104_3 a0_0 (wrap64 (x109_4 + 1)) a0_0 a0_1 l0_2 t762 t763 t764)) else (none)) else (none)) else (if 0 ≤ (wrap64 ((wrap64 (x104_3 * a0_0)) + x109_4)) then (if (wrap64 ((wrap64 (x104_3 * a0_0)) + x109_4)) < (t764.length : Int) then (if (!(((rd_T48 t764 (wrap64 ((wrap64 (x104_3 * a0_0)) + x109_4))).f0) == t770) || (!(((rd_T48 t764 (wrap64 ((wrap64 (x104_3 * a0_0)) + x109_4))).f1) == t771) || (!(((rd_T48 t764 (wrap64 ((wrap64 (x104_3 * a0_0)) + x109_4))).f2) == t772) || (!(((rd_T48 t764 (wrap64 ((wrap64 (x104_3 * a0_0)) + x109_4))).f3) == t773))))) = true then (some false) else (imageeditorlaw15_WarpMoves.l1 k4 a2 a3 x104_3 a0_1 x104_3 a0_0 (wrap64 (x109_4 + 1)) a0_0 a0_1 l0_2 t762 t763 t764)) else (none)) else (none))) = some r := H
             have A70 := Aside0.mk A700
             clear A700
             by_cases c71 : t773 = 0
             ·rw [if_pos c71] at H
              have c71b0 : (t773 == 0) = true := beq_iff_eq.mpr c71
              have c71b1 : (t773 != 0) = false := bne_eq_false_iff_eq.mpr c71
              clear c71
              obtain ⟨ji72, hji72⟩ : ∃ j_ : Int, (wrap64 ((wrap64 (x104_3 * a0_0)) + x109_4)) = j_ := ⟨_, rfl⟩
              replace H : (if 0 ≤ (ji72) then (if (ji72) < (t764.length : Int) then (if (!(((rd_T48 t764 (ji72)).f0) == 0) || (!(((rd_T48 t764 (ji72)).f1) == 0) || (!(((rd_T48 t764 (ji72)).f2) == 0) || (!(((rd_T48 t764 (ji72)).f3) == 0))))) = true then (some false) else (imageeditorlaw15_WarpMoves.l1 k4 a2 a3 x104_3 a0_1 x104_3 a0_0 (wrap64 (x109_4 + 1)) a0_0 a0_1 l0_2 t762 t763 t764)) else (none)) else (none)) = some r := by first | (rw [hji72] at H; exact H) | (simp only [hji72] at H ⊢; exact H)
              (try rw [hji72] at A70)
              have hji72w : (IntKind.i64.wrap ((wrap64 (x104_3 * a0_0)) + x109_4)) = ji72 := (i64_w _).trans hji72
              have hji72q : (IntKind.i64.wrap ((IntKind.i64.wrap (x104_3 * a0_0)) + x109_4)) = ji72 := by simpa only [i64_w] using hji72
              by_cases c73 : 0 ≤ (ji72)
              ·rw [if_pos c73] at H
               have c73b0 : decide (0 ≤ (ji72)) = true := decide_eq_true c73
               clear c73
               by_cases c74 : (ji72) < (t764.length : Int)
               ·rw [if_pos c74] at H
                have c74b0 : decide ((ji72) < (t764.length : Int)) = true := decide_eq_true c74
                clear c74
                by_cases c75 : (!(((rd_T48 t764 (ji72)).f0) == 0) || (!(((rd_T48 t764 (ji72)).f1) == 0) || (!(((rd_T48 t764 (ji72)).f2) == 0) || (!(((rd_T48 t764 (ji72)).f3) == 0))))) = true
                ·rw [if_pos c75] at H
                 have c75b0 : (!(((rd_T48 t764 (ji72)).f0) == 0) || (!(((rd_T48 t764 (ji72)).f1) == 0) || (!(((rd_T48 t764 (ji72)).f2) == 0) || (!(((rd_T48 t764 (ji72)).f3) == 0))))) = true := c75
                 clear c75
                 as_aux_lemma =>
                  exact absurd HT.out (by rw [← Option.some.inj H]; decide)
                ·rw [if_neg c75] at H
                 have c75b0 : (!(((rd_T48 t764 (ji72)).f0) == 0) || (!(((rd_T48 t764 (ji72)).f1) == 0) || (!(((rd_T48 t764 (ji72)).f2) == 0) || (!(((rd_T48 t764 (ji72)).f3) == 0))))) = false := by simpa using c75
                 clear c75
                 focus
                  have H' := Aside0.mk H
                  clear H
                  have hnb76 := NB753_768.out
                  have hnc76 := NB768_753.out
                  obtain ⟨hcz77_0, hcz77_1, hcz77_2, hfz77_0, hfz77_1, hfz77_2⟩ := zq3 BK753
                  go_upto_region 16 with (first | (go_at_call 23; (with_reducible refine (raster_Edge.calls k4 a0_0 a0_1 _ _ l0_2 (wrap64 (x109_4 + a2)) (wrap64 (x104_3 + a3)) t770 t771 t772 t773 _ ?side1 ?side2 A70.out).mono ?_); (case side1 => repeat (first | exact (Kd.C_below HR0_2.out HB.out) | (with_reducible refine Kd.C_alloc ?_ _) | (with_reducible refine Kd.C_drewN ?_ _) | (with_reducible refine Kd.C_drew ?_))); (case side2 => exact HC0_2.out); rintro e w78 ⟨rfl, hb⟩; replace HO_769002 := zr HO_769002 hb; replace BK753 := zk BK753 hb; replace BK768 := zk BK768 hb; replace HB := zb HB hb; (try clear hb); (try clear hb2); (try clear hk); (try clear hi)) | ((with_reducible refine gate_dst (N := 16) rfl ?_); (try (refine gate_guard (by rfl) ?_; dsimp only)); refine box_event ?hg (N := 16) ?hd (cs := #[.int .i64 0, .int .i64 0, .int .i64 0, .int .i64 0]) (t := 48) ?hr ?_; (case hd => rfl); (case hg => rfl); (case hr => first | (go_simp; done) | (go_simp; rfl)); intro gb774 hg w79 hbox hb; have GW774 := zg HB hg; have GE774 := zg HB hg; have NB753_774 := zn BK753 hg; have NB774_753 := zn' BK753 hg; have NB768_774 := zn BK768 hg; have NB774_768 := zn' BK768 hg; have n0_ := Aside0.mk (Kd.R_below (Kd.R_elderB (by exact zr0 HO_769002) gb774 (Nat.le_of_eq hg.symm)) hb); have n1_ := Aside0.mk (hbox); replace BK753 := zk BK753 hb; replace BK768 := zk BK768 hb; replace HB := zb HB hb; clear HO_769002; have HO_769002 := n0_; have BK774 := n1_; clear n0_ n1_; clear hb hbox hg; have hnb80 := NB774_753.out; have hnc80 := NB753_774.out; have hnb81 := NB774_768.out; have hnc81 := NB768_774.out; obtain ⟨hcz82_0, hcz82_1, hcz82_2, hcz82_3, hfz82_0, hfz82_1, hfz82_2, hfz82_3⟩ := zq4 BK774; obtain ⟨hcz83_0, hcz83_1, hcz83_2, hfz83_0, hfz83_1, hfz83_2⟩ := zq3 BK768; obtain ⟨hcz84_0, hcz84_1, hcz84_2, hfz84_0, hfz84_1, hfz84_2⟩ := zq3 BK753))
                  have n0_ : Aside0 (((((w79.setCell ⟨gb774, 0, none⟩ (.int .i64 t770)).setCell ⟨gb774, 1, none⟩ (.int .i64 t771)).setCell ⟨gb774, 2, none⟩ (.int .i64 t772)).setCell ⟨gb774, 3, none⟩ (.int .i64 t773)).heap[gb753]? = _) := ⟨zf BK753 NB753_774⟩
                  have n1_ : Aside0 (((((w79.setCell ⟨gb774, 0, none⟩ (.int .i64 t770)).setCell ⟨gb774, 1, none⟩ (.int .i64 t771)).setCell ⟨gb774, 2, none⟩ (.int .i64 t772)).setCell ⟨gb774, 3, none⟩ (.int .i64 t773)).heap[gb768]? = _) := ⟨zf BK768 NB768_774⟩
                  have n2_ : Aside0 (((((w79.setCell ⟨gb774, 0, none⟩ (.int .i64 t770)).setCell ⟨gb774, 1, none⟩ (.int .i64 t771)).setCell ⟨gb774, 2, none⟩ (.int .i64 t772)).setCell ⟨gb774, 3, none⟩ (.int .i64 t773)).heap[gb774]? = some (.cells #[.int .i64 t770, .int .i64 t771, .int .i64 t772, .int .i64 t773] 48 (0, 0))) := ⟨zp BK774 rfl⟩
                  have n3_ : Aside0 (Below w.heap.size w ((((w79.setCell ⟨gb774, 0, none⟩ (.int .i64 t770)).setCell ⟨gb774, 1, none⟩ (.int .i64 t771)).setCell ⟨gb774, 2, none⟩ (.int .i64 t772)).setCell ⟨gb774, 3, none⟩ (.int .i64 t773))) := ⟨zbo HB GE774⟩
                  have n4_ : Aside0 (k48.R 48 ((((w79.setCell ⟨gb774, 0, none⟩ (.int .i64 t770)).setCell ⟨gb774, 1, none⟩ (.int .i64 t771)).setCell ⟨gb774, 2, none⟩ (.int .i64 t772)).setCell ⟨gb774, 3, none⟩ (.int .i64 t773)) w.heap.size (fun k => True ∧ k ≠ gb774) _ _) := ⟨zro' HO_769002 (fun _ h => h.2)⟩
                  clear BK753 BK768 BK774 HB HO_769002
                  generalize ((((w79.setCell ⟨gb774, 0, none⟩ (.int .i64 t770)).setCell ⟨gb774, 1, none⟩ (.int .i64 t771)).setCell ⟨gb774, 2, none⟩ (.int .i64 t772)).setCell ⟨gb774, 3, none⟩ (.int .i64 t773)) = w80_ at n0_ n1_ n2_ n3_ n4_ ⊢
                  have BK753 := n0_
                  have BK768 := n1_
                  have BK774 := n2_
                  have HB := n3_
                  have HO_769002 := n4_
                  clear n0_ n1_ n2_ n3_ n4_
                  have hnb80 := NB774_753.out
                  have hnc80 := NB753_774.out
                  have hnb81 := NB774_768.out
                  have hnc81 := NB768_774.out
                  obtain ⟨hcz82_0, hcz82_1, hcz82_2, hcz82_3, hfz82_0, hfz82_1, hfz82_2, hfz82_3⟩ := zq4 BK774
                  obtain ⟨hcz83_0, hcz83_1, hcz83_2, hfz83_0, hfz83_1, hfz83_2⟩ := zq3 BK768
                  obtain ⟨hcz84_0, hcz84_1, hcz84_2, hfz84_0, hfz84_1, hfz84_2⟩ := zq3 BK753
                  have p775 : 0 ≤ ((ji72) : Int) := of_decide_eq_true (by first | (with_reducible assumption) | assumption)
                  have q775 : (ji72) < (t764.length : Int) := of_decide_eq_true (by first | (with_reducible assumption) | assumption)
                  obtain ⟨ad775, e775, hx775_0, hx775_1, hx775_2, hx775_3⟩ := at_T48 (Kd.R_reads' HO_769002.out).2.2 (ji72) p775 q775
                  cases e775
                  have hn775_0 : ad775.block ≠ gb774 := Kd.own_blk (fun e_ => (HO_769002.out.1 _ e_.symm).2 rfl)
                  have hn775_1 : ad775.block ≠ gb774 := Kd.own_blk (fun e_ => (HO_769002.out.1 _ e_.symm).2 rfl)
                  have hn775_2 : ad775.block ≠ gb774 := Kd.own_blk (fun e_ => (HO_769002.out.1 _ e_.symm).2 rfl)
                  have hn775_3 : ad775.block ≠ gb774 := Kd.own_blk (fun e_ => (HO_769002.out.1 _ e_.symm).2 rfl)
                  have hn775_4 : ad775.block ≠ gb774 := Kd.own_blk (fun e_ => (HO_769002.out.1 _ e_.symm).2 rfl)
                  have hn775_5 : ad775.block ≠ gb774 := Kd.own_blk (fun e_ => (HO_769002.out.1 _ e_.symm).2 rfl)
                  have hn775_6 : ad775.block ≠ gb774 := Kd.own_blk (fun e_ => (HO_769002.out.1 _ e_.symm).2 rfl)
                  have hn775_7 : ad775.block ≠ gb774 := Kd.own_blk (fun e_ => (HO_769002.out.1 _ e_.symm).2 rfl)
                  (try have hy775_0 := fun (n_ : Nat) => (show (w80_.drewN n_).cell? _ = some _ from hx775_0))
                  (try have hy775_1 := fun (n_ : Nat) => (show (w80_.drewN n_).cell? _ = some _ from hx775_1))
                  (try have hy775_2 := fun (n_ : Nat) => (show (w80_.drewN n_).cell? _ = some _ from hx775_2))
                  (try have hy775_3 := fun (n_ : Nat) => (show (w80_.drewN n_).cell? _ = some _ from hx775_3))
                  replace hx775_0 := (cell_far (p := ⟨gb774, 0, none⟩) (by first | (rw [add_block]; exact hn775_4) | (show (Addr.add _ _).block ≠ _; rw [add_block]; exact hn775_4) | exact hn775_4) (.int .i64 0)).trans hx775_0
                  (try replace hy775_0 := fun (n_ : Nat) => (cell_far (p := ⟨gb774, 0, none⟩) (by first | (rw [add_block]; exact hn775_4) | (show (Addr.add _ _).block ≠ _; rw [add_block]; exact hn775_4) | exact hn775_4) (.int .i64 0)).trans (hy775_0 n_))
                  replace hx775_1 := (cell_far (p := ⟨gb774, 0, none⟩) (by first | (rw [add_block]; exact hn775_4) | (show (Addr.add _ _).block ≠ _; rw [add_block]; exact hn775_4) | exact hn775_4) (.int .i64 0)).trans hx775_1
                  (try replace hy775_1 := fun (n_ : Nat) => (cell_far (p := ⟨gb774, 0, none⟩) (by first | (rw [add_block]; exact hn775_4) | (show (Addr.add _ _).block ≠ _; rw [add_block]; exact hn775_4) | exact hn775_4) (.int .i64 0)).trans (hy775_1 n_))
                  replace hx775_2 := (cell_far (p := ⟨gb774, 0, none⟩) (by first | (rw [add_block]; exact hn775_4) | (show (Addr.add _ _).block ≠ _; rw [add_block]; exact hn775_4) | exact hn775_4) (.int .i64 0)).trans hx775_2
                  (try replace hy775_2 := fun (n_ : Nat) => (cell_far (p := ⟨gb774, 0, none⟩) (by first | (rw [add_block]; exact hn775_4) | (show (Addr.add _ _).block ≠ _; rw [add_block]; exact hn775_4) | exact hn775_4) (.int .i64 0)).trans (hy775_2 n_))
                  replace hx775_3 := (cell_far (p := ⟨gb774, 0, none⟩) (by first | (rw [add_block]; exact hn775_4) | (show (Addr.add _ _).block ≠ _; rw [add_block]; exact hn775_4) | exact hn775_4) (.int .i64 0)).trans hx775_3
                  (try replace hy775_3 := fun (n_ : Nat) => (cell_far (p := ⟨gb774, 0, none⟩) (by first | (rw [add_block]; exact hn775_4) | (show (Addr.add _ _).block ≠ _; rw [add_block]; exact hn775_4) | exact hn775_4) (.int .i64 0)).trans (hy775_3 n_))
                  replace hx775_0 := (cell_far (p := ⟨gb774, 1, none⟩) (by first | (rw [add_block]; exact hn775_5) | (show (Addr.add _ _).block ≠ _; rw [add_block]; exact hn775_5) | exact hn775_5) (.int .i64 0)).trans hx775_0
                  (try replace hy775_0 := fun (n_ : Nat) => (cell_far (p := ⟨gb774, 1, none⟩) (by first | (rw [add_block]; exact hn775_5) | (show (Addr.add _ _).block ≠ _; rw [add_block]; exact hn775_5) | exact hn775_5) (.int .i64 0)).trans (hy775_0 n_))
                  replace hx775_1 := (cell_far (p := ⟨gb774, 1, none⟩) (by first | (rw [add_block]; exact hn775_5) | (show (Addr.add _ _).block ≠ _; rw [add_block]; exact hn775_5) | exact hn775_5) (.int .i64 0)).trans hx775_1
                  (try replace hy775_1 := fun (n_ : Nat) => (cell_far (p := ⟨gb774, 1, none⟩) (by first | (rw [add_block]; exact hn775_5) | (show (Addr.add _ _).block ≠ _; rw [add_block]; exact hn775_5) | exact hn775_5) (.int .i64 0)).trans (hy775_1 n_))
                  replace hx775_2 := (cell_far (p := ⟨gb774, 1, none⟩) (by first | (rw [add_block]; exact hn775_5) | (show (Addr.add _ _).block ≠ _; rw [add_block]; exact hn775_5) | exact hn775_5) (.int .i64 0)).trans hx775_2
                  (try replace hy775_2 := fun (n_ : Nat) => (cell_far (p := ⟨gb774, 1, none⟩) (by first | (rw [add_block]; exact hn775_5) | (show (Addr.add _ _).block ≠ _; rw [add_block]; exact hn775_5) | exact hn775_5) (.int .i64 0)).trans (hy775_2 n_))
                  replace hx775_3 := (cell_far (p := ⟨gb774, 1, none⟩) (by first | (rw [add_block]; exact hn775_5) | (show (Addr.add _ _).block ≠ _; rw [add_block]; exact hn775_5) | exact hn775_5) (.int .i64 0)).trans hx775_3
                  (try replace hy775_3 := fun (n_ : Nat) => (cell_far (p := ⟨gb774, 1, none⟩) (by first | (rw [add_block]; exact hn775_5) | (show (Addr.add _ _).block ≠ _; rw [add_block]; exact hn775_5) | exact hn775_5) (.int .i64 0)).trans (hy775_3 n_))
                  replace hx775_0 := (cell_far (p := ⟨gb774, 2, none⟩) (by first | (rw [add_block]; exact hn775_6) | (show (Addr.add _ _).block ≠ _; rw [add_block]; exact hn775_6) | exact hn775_6) (.int .i64 0)).trans hx775_0
                  (try replace hy775_0 := fun (n_ : Nat) => (cell_far (p := ⟨gb774, 2, none⟩) (by first | (rw [add_block]; exact hn775_6) | (show (Addr.add _ _).block ≠ _; rw [add_block]; exact hn775_6) | exact hn775_6) (.int .i64 0)).trans (hy775_0 n_))
                  replace hx775_1 := (cell_far (p := ⟨gb774, 2, none⟩) (by first | (rw [add_block]; exact hn775_6) | (show (Addr.add _ _).block ≠ _; rw [add_block]; exact hn775_6) | exact hn775_6) (.int .i64 0)).trans hx775_1
                  (try replace hy775_1 := fun (n_ : Nat) => (cell_far (p := ⟨gb774, 2, none⟩) (by first | (rw [add_block]; exact hn775_6) | (show (Addr.add _ _).block ≠ _; rw [add_block]; exact hn775_6) | exact hn775_6) (.int .i64 0)).trans (hy775_1 n_))
                  replace hx775_2 := (cell_far (p := ⟨gb774, 2, none⟩) (by first | (rw [add_block]; exact hn775_6) | (show (Addr.add _ _).block ≠ _; rw [add_block]; exact hn775_6) | exact hn775_6) (.int .i64 0)).trans hx775_2
                  (try replace hy775_2 := fun (n_ : Nat) => (cell_far (p := ⟨gb774, 2, none⟩) (by first | (rw [add_block]; exact hn775_6) | (show (Addr.add _ _).block ≠ _; rw [add_block]; exact hn775_6) | exact hn775_6) (.int .i64 0)).trans (hy775_2 n_))
                  replace hx775_3 := (cell_far (p := ⟨gb774, 2, none⟩) (by first | (rw [add_block]; exact hn775_6) | (show (Addr.add _ _).block ≠ _; rw [add_block]; exact hn775_6) | exact hn775_6) (.int .i64 0)).trans hx775_3
                  (try replace hy775_3 := fun (n_ : Nat) => (cell_far (p := ⟨gb774, 2, none⟩) (by first | (rw [add_block]; exact hn775_6) | (show (Addr.add _ _).block ≠ _; rw [add_block]; exact hn775_6) | exact hn775_6) (.int .i64 0)).trans (hy775_3 n_))
                  replace hx775_0 := (cell_far (p := ⟨gb774, 3, none⟩) (by first | (rw [add_block]; exact hn775_7) | (show (Addr.add _ _).block ≠ _; rw [add_block]; exact hn775_7) | exact hn775_7) (.int .i64 0)).trans hx775_0
                  (try replace hy775_0 := fun (n_ : Nat) => (cell_far (p := ⟨gb774, 3, none⟩) (by first | (rw [add_block]; exact hn775_7) | (show (Addr.add _ _).block ≠ _; rw [add_block]; exact hn775_7) | exact hn775_7) (.int .i64 0)).trans (hy775_0 n_))
                  replace hx775_1 := (cell_far (p := ⟨gb774, 3, none⟩) (by first | (rw [add_block]; exact hn775_7) | (show (Addr.add _ _).block ≠ _; rw [add_block]; exact hn775_7) | exact hn775_7) (.int .i64 0)).trans hx775_1
                  (try replace hy775_1 := fun (n_ : Nat) => (cell_far (p := ⟨gb774, 3, none⟩) (by first | (rw [add_block]; exact hn775_7) | (show (Addr.add _ _).block ≠ _; rw [add_block]; exact hn775_7) | exact hn775_7) (.int .i64 0)).trans (hy775_1 n_))
                  replace hx775_2 := (cell_far (p := ⟨gb774, 3, none⟩) (by first | (rw [add_block]; exact hn775_7) | (show (Addr.add _ _).block ≠ _; rw [add_block]; exact hn775_7) | exact hn775_7) (.int .i64 0)).trans hx775_2
                  (try replace hy775_2 := fun (n_ : Nat) => (cell_far (p := ⟨gb774, 3, none⟩) (by first | (rw [add_block]; exact hn775_7) | (show (Addr.add _ _).block ≠ _; rw [add_block]; exact hn775_7) | exact hn775_7) (.int .i64 0)).trans (hy775_2 n_))
                  replace hx775_3 := (cell_far (p := ⟨gb774, 3, none⟩) (by first | (rw [add_block]; exact hn775_7) | (show (Addr.add _ _).block ≠ _; rw [add_block]; exact hn775_7) | exact hn775_7) (.int .i64 0)).trans hx775_3
                  (try replace hy775_3 := fun (n_ : Nat) => (cell_far (p := ⟨gb774, 3, none⟩) (by first | (rw [add_block]; exact hn775_7) | (show (Addr.add _ _).block ≠ _; rw [add_block]; exact hn775_7) | exact hn775_7) (.int .i64 0)).trans (hy775_3 n_))
                  clear hn775_0
                  clear hn775_1
                  clear hn775_2
                  clear hn775_3
                  clear hn775_4
                  clear hn775_5
                  clear hn775_6
                  clear hn775_7
                  replace p775 := eq_true p775
                  replace q775 := eq_true q775
                  go_wp2
                  repeat (go_quiet (first | (go_at_call 23; (with_reducible refine (raster_Edge.calls k4 a0_0 a0_1 _ _ l0_2 (wrap64 (x109_4 + a2)) (wrap64 (x104_3 + a3)) t770 t771 t772 t773 _ ?side1 ?side2 A70.out).mono ?_); (case side1 => repeat (first | exact (Kd.C_below HR0_2.out HB.out) | (with_reducible refine Kd.C_alloc ?_ _) | (with_reducible refine Kd.C_drewN ?_ _) | (with_reducible refine Kd.C_drew ?_))); (case side2 => exact HC0_2.out); rintro e w78 ⟨rfl, hb⟩; replace HO_769002 := zr HO_769002 hb; replace BK753 := zk BK753 hb; replace BK768 := zk BK768 hb; replace HB := zb HB hb; (try clear hb); (try clear hb2); (try clear hk); (try clear hi)) | ((with_reducible refine gate_dst (N := 16) rfl ?_); (try (refine gate_guard (by rfl) ?_; dsimp only)); refine box_event ?hg (N := 16) ?hd (cs := #[.int .i64 0, .int .i64 0, .int .i64 0, .int .i64 0]) (t := 48) ?hr ?_; (case hd => rfl); (case hg => rfl); (case hr => first | (go_simp; done) | (go_simp; rfl)); intro gb774 hg w79 hbox hb; have GW774 := zg HB hg; have GE774 := zg HB hg; have NB753_774 := zn BK753 hg; have NB774_753 := zn' BK753 hg; have NB768_774 := zn BK768 hg; have NB774_768 := zn' BK768 hg; have n0_ := Aside0.mk (Kd.R_below (Kd.R_elderB (by exact zr0 HO_769002) gb774 (Nat.le_of_eq hg.symm)) hb); have n1_ := Aside0.mk (hbox); replace BK753 := zk BK753 hb; replace BK768 := zk BK768 hb; replace HB := zb HB hb; clear HO_769002; have HO_769002 := n0_; have BK774 := n1_; clear n0_ n1_; clear hb hbox hg; have hnb80 := NB774_753.out; have hnc80 := NB753_774.out; have hnb81 := NB774_768.out; have hnc81 := NB768_774.out; obtain ⟨hcz82_0, hcz82_1, hcz82_2, hcz82_3, hfz82_0, hfz82_1, hfz82_2, hfz82_3⟩ := zq4 BK774; obtain ⟨hcz83_0, hcz83_1, hcz83_2, hfz83_0, hfz83_1, hfz83_2⟩ := zq3 BK768; obtain ⟨hcz84_0, hcz84_1, hcz84_2, hfz84_0, hfz84_1, hfz84_2⟩ := zq3 BK753; have p775 : 0 ≤ ((ji72) : Int) := of_decide_eq_true (by first | (with_reducible assumption) | assumption); have q775 : (ji72) < (t764.length : Int) := of_decide_eq_true (by first | (with_reducible assumption) | assumption); obtain ⟨ad775, e775, hx775_0, hx775_1, hx775_2, hx775_3⟩ := at_T48 (Kd.R_reads' HO_769002.out).2.2 (ji72) p775 q775; cases e775; have hn775_0 : ad775.block ≠ gb774 := Kd.own_blk (fun e_ => (HO_769002.out.1 _ e_.symm).2 rfl); have hn775_1 : ad775.block ≠ gb774 := Kd.own_blk (fun e_ => (HO_769002.out.1 _ e_.symm).2 rfl); have hn775_2 : ad775.block ≠ gb774 := Kd.own_blk (fun e_ => (HO_769002.out.1 _ e_.symm).2 rfl); have hn775_3 : ad775.block ≠ gb774 := Kd.own_blk (fun e_ => (HO_769002.out.1 _ e_.symm).2 rfl); have hn775_4 : ad775.block ≠ gb774 := Kd.own_blk (fun e_ => (HO_769002.out.1 _ e_.symm).2 rfl); have hn775_5 : ad775.block ≠ gb774 := Kd.own_blk (fun e_ => (HO_769002.out.1 _ e_.symm).2 rfl); have hn775_6 : ad775.block ≠ gb774 := Kd.own_blk (fun e_ => (HO_769002.out.1 _ e_.symm).2 rfl); have hn775_7 : ad775.block ≠ gb774 := Kd.own_blk (fun e_ => (HO_769002.out.1 _ e_.symm).2 rfl); replace hx775_0 := (cell_far (p := ⟨gb774, 0, none⟩) (by first | (rw [add_block]; exact hn775_0) | (show (Addr.add _ _).block ≠ _; rw [add_block]; exact hn775_0) | exact hn775_0) (.int .i64 t770)).trans hx775_0; replace hx775_1 := (cell_far (p := ⟨gb774, 0, none⟩) (by first | (rw [add_block]; exact hn775_0) | (show (Addr.add _ _).block ≠ _; rw [add_block]; exact hn775_0) | exact hn775_0) (.int .i64 t770)).trans hx775_1; replace hx775_2 := (cell_far (p := ⟨gb774, 0, none⟩) (by first | (rw [add_block]; exact hn775_0) | (show (Addr.add _ _).block ≠ _; rw [add_block]; exact hn775_0) | exact hn775_0) (.int .i64 t770)).trans hx775_2; replace hx775_3 := (cell_far (p := ⟨gb774, 0, none⟩) (by first | (rw [add_block]; exact hn775_0) | (show (Addr.add _ _).block ≠ _; rw [add_block]; exact hn775_0) | exact hn775_0) (.int .i64 t770)).trans hx775_3; replace hx775_0 := (cell_far (p := ⟨gb774, 1, none⟩) (by first | (rw [add_block]; exact hn775_1) | (show (Addr.add _ _).block ≠ _; rw [add_block]; exact hn775_1) | exact hn775_1) (.int .i64 t771)).trans hx775_0; replace hx775_1 := (cell_far (p := ⟨gb774, 1, none⟩) (by first | (rw [add_block]; exact hn775_1) | (show (Addr.add _ _).block ≠ _; rw [add_block]; exact hn775_1) | exact hn775_1) (.int .i64 t771)).trans hx775_1; replace hx775_2 := (cell_far (p := ⟨gb774, 1, none⟩) (by first | (rw [add_block]; exact hn775_1) | (show (Addr.add _ _).block ≠ _; rw [add_block]; exact hn775_1) | exact hn775_1) (.int .i64 t771)).trans hx775_2; replace hx775_3 := (cell_far (p := ⟨gb774, 1, none⟩) (by first | (rw [add_block]; exact hn775_1) | (show (Addr.add _ _).block ≠ _; rw [add_block]; exact hn775_1) | exact hn775_1) (.int .i64 t771)).trans hx775_3; replace hx775_0 := (cell_far (p := ⟨gb774, 2, none⟩) (by first | (rw [add_block]; exact hn775_2) | (show (Addr.add _ _).block ≠ _; rw [add_block]; exact hn775_2) | exact hn775_2) (.int .i64 t772)).trans hx775_0; replace hx775_1 := (cell_far (p := ⟨gb774, 2, none⟩) (by first | (rw [add_block]; exact hn775_2) | (show (Addr.add _ _).block ≠ _; rw [add_block]; exact hn775_2) | exact hn775_2) (.int .i64 t772)).trans hx775_1; replace hx775_2 := (cell_far (p := ⟨gb774, 2, none⟩) (by first | (rw [add_block]; exact hn775_2) | (show (Addr.add _ _).block ≠ _; rw [add_block]; exact hn775_2) | exact hn775_2) (.int .i64 t772)).trans hx775_2; replace hx775_3 := (cell_far (p := ⟨gb774, 2, none⟩) (by first | (rw [add_block]; exact hn775_2) | (show (Addr.add _ _).block ≠ _; rw [add_block]; exact hn775_2) | exact hn775_2) (.int .i64 t772)).trans hx775_3; replace hx775_0 := (cell_far (p := ⟨gb774, 3, none⟩) (by first | (rw [add_block]; exact hn775_3) | (show (Addr.add _ _).block ≠ _; rw [add_block]; exact hn775_3) | exact hn775_3) (.int .i64 t773)).trans hx775_0; replace hx775_1 := (cell_far (p := ⟨gb774, 3, none⟩) (by first | (rw [add_block]; exact hn775_3) | (show (Addr.add _ _).block ≠ _; rw [add_block]; exact hn775_3) | exact hn775_3) (.int .i64 t773)).trans hx775_1; replace hx775_2 := (cell_far (p := ⟨gb774, 3, none⟩) (by first | (rw [add_block]; exact hn775_3) | (show (Addr.add _ _).block ≠ _; rw [add_block]; exact hn775_3) | exact hn775_3) (.int .i64 t773)).trans hx775_2; replace hx775_3 := (cell_far (p := ⟨gb774, 3, none⟩) (by first | (rw [add_block]; exact hn775_3) | (show (Addr.add _ _).block ≠ _; rw [add_block]; exact hn775_3) | exact hn775_3) (.int .i64 t773)).trans hx775_3; replace hx775_0 := (cell_far (p := ⟨gb774, 0, none⟩) (by first | (rw [add_block]; exact hn775_4) | (show (Addr.add _ _).block ≠ _; rw [add_block]; exact hn775_4) | exact hn775_4) (.int .i64 0)).trans hx775_0; replace hx775_1 := (cell_far (p := ⟨gb774, 0, none⟩) (by first | (rw [add_block]; exact hn775_4) | (show (Addr.add _ _).block ≠ _; rw [add_block]; exact hn775_4) | exact hn775_4) (.int .i64 0)).trans hx775_1; replace hx775_2 := (cell_far (p := ⟨gb774, 0, none⟩) (by first | (rw [add_block]; exact hn775_4) | (show (Addr.add _ _).block ≠ _; rw [add_block]; exact hn775_4) | exact hn775_4) (.int .i64 0)).trans hx775_2; replace hx775_3 := (cell_far (p := ⟨gb774, 0, none⟩) (by first | (rw [add_block]; exact hn775_4) | (show (Addr.add _ _).block ≠ _; rw [add_block]; exact hn775_4) | exact hn775_4) (.int .i64 0)).trans hx775_3; replace hx775_0 := (cell_far (p := ⟨gb774, 1, none⟩) (by first | (rw [add_block]; exact hn775_5) | (show (Addr.add _ _).block ≠ _; rw [add_block]; exact hn775_5) | exact hn775_5) (.int .i64 0)).trans hx775_0; replace hx775_1 := (cell_far (p := ⟨gb774, 1, none⟩) (by first | (rw [add_block]; exact hn775_5) | (show (Addr.add _ _).block ≠ _; rw [add_block]; exact hn775_5) | exact hn775_5) (.int .i64 0)).trans hx775_1; replace hx775_2 := (cell_far (p := ⟨gb774, 1, none⟩) (by first | (rw [add_block]; exact hn775_5) | (show (Addr.add _ _).block ≠ _; rw [add_block]; exact hn775_5) | exact hn775_5) (.int .i64 0)).trans hx775_2; replace hx775_3 := (cell_far (p := ⟨gb774, 1, none⟩) (by first | (rw [add_block]; exact hn775_5) | (show (Addr.add _ _).block ≠ _; rw [add_block]; exact hn775_5) | exact hn775_5) (.int .i64 0)).trans hx775_3; replace hx775_0 := (cell_far (p := ⟨gb774, 2, none⟩) (by first | (rw [add_block]; exact hn775_6) | (show (Addr.add _ _).block ≠ _; rw [add_block]; exact hn775_6) | exact hn775_6) (.int .i64 0)).trans hx775_0; replace hx775_1 := (cell_far (p := ⟨gb774, 2, none⟩) (by first | (rw [add_block]; exact hn775_6) | (show (Addr.add _ _).block ≠ _; rw [add_block]; exact hn775_6) | exact hn775_6) (.int .i64 0)).trans hx775_1; replace hx775_2 := (cell_far (p := ⟨gb774, 2, none⟩) (by first | (rw [add_block]; exact hn775_6) | (show (Addr.add _ _).block ≠ _; rw [add_block]; exact hn775_6) | exact hn775_6) (.int .i64 0)).trans hx775_2; replace hx775_3 := (cell_far (p := ⟨gb774, 2, none⟩) (by first | (rw [add_block]; exact hn775_6) | (show (Addr.add _ _).block ≠ _; rw [add_block]; exact hn775_6) | exact hn775_6) (.int .i64 0)).trans hx775_3; replace hx775_0 := (cell_far (p := ⟨gb774, 3, none⟩) (by first | (rw [add_block]; exact hn775_7) | (show (Addr.add _ _).block ≠ _; rw [add_block]; exact hn775_7) | exact hn775_7) (.int .i64 0)).trans hx775_0; replace hx775_1 := (cell_far (p := ⟨gb774, 3, none⟩) (by first | (rw [add_block]; exact hn775_7) | (show (Addr.add _ _).block ≠ _; rw [add_block]; exact hn775_7) | exact hn775_7) (.int .i64 0)).trans hx775_1; replace hx775_2 := (cell_far (p := ⟨gb774, 3, none⟩) (by first | (rw [add_block]; exact hn775_7) | (show (Addr.add _ _).block ≠ _; rw [add_block]; exact hn775_7) | exact hn775_7) (.int .i64 0)).trans hx775_2; replace hx775_3 := (cell_far (p := ⟨gb774, 3, none⟩) (by first | (rw [add_block]; exact hn775_7) | (show (Addr.add _ _).block ≠ _; rw [add_block]; exact hn775_7) | exact hn775_7) (.int .i64 0)).trans hx775_3; (try have hy775_0 := fun (n_ : Nat) => (show ((((((((((w79.drewN n_).setCell ⟨gb774, 0, none⟩ (.int .i64 t770)).setCell ⟨gb774, 1, none⟩ (.int .i64 t771)).setCell ⟨gb774, 2, none⟩ (.int .i64 t772)).setCell ⟨gb774, 3, none⟩ (.int .i64 t773)).setCell ⟨gb774, 0, none⟩ (.int .i64 0)).setCell ⟨gb774, 1, none⟩ (.int .i64 0)).setCell ⟨gb774, 2, none⟩ (.int .i64 0)).setCell ⟨gb774, 3, none⟩ (.int .i64 0))).cell? _ = some _ from hx775_0)); (try have hy775_1 := fun (n_ : Nat) => (show ((((((((((w79.drewN n_).setCell ⟨gb774, 0, none⟩ (.int .i64 t770)).setCell ⟨gb774, 1, none⟩ (.int .i64 t771)).setCell ⟨gb774, 2, none⟩ (.int .i64 t772)).setCell ⟨gb774, 3, none⟩ (.int .i64 t773)).setCell ⟨gb774, 0, none⟩ (.int .i64 0)).setCell ⟨gb774, 1, none⟩ (.int .i64 0)).setCell ⟨gb774, 2, none⟩ (.int .i64 0)).setCell ⟨gb774, 3, none⟩ (.int .i64 0))).cell? _ = some _ from hx775_1)); (try have hy775_2 := fun (n_ : Nat) => (show ((((((((((w79.drewN n_).setCell ⟨gb774, 0, none⟩ (.int .i64 t770)).setCell ⟨gb774, 1, none⟩ (.int .i64 t771)).setCell ⟨gb774, 2, none⟩ (.int .i64 t772)).setCell ⟨gb774, 3, none⟩ (.int .i64 t773)).setCell ⟨gb774, 0, none⟩ (.int .i64 0)).setCell ⟨gb774, 1, none⟩ (.int .i64 0)).setCell ⟨gb774, 2, none⟩ (.int .i64 0)).setCell ⟨gb774, 3, none⟩ (.int .i64 0))).cell? _ = some _ from hx775_2)); (try have hy775_3 := fun (n_ : Nat) => (show ((((((((((w79.drewN n_).setCell ⟨gb774, 0, none⟩ (.int .i64 t770)).setCell ⟨gb774, 1, none⟩ (.int .i64 t771)).setCell ⟨gb774, 2, none⟩ (.int .i64 t772)).setCell ⟨gb774, 3, none⟩ (.int .i64 t773)).setCell ⟨gb774, 0, none⟩ (.int .i64 0)).setCell ⟨gb774, 1, none⟩ (.int .i64 0)).setCell ⟨gb774, 2, none⟩ (.int .i64 0)).setCell ⟨gb774, 3, none⟩ (.int .i64 0))).cell? _ = some _ from hx775_3)); clear hn775_0; clear hn775_1; clear hn775_2; clear hn775_3; clear hn775_4; clear hn775_5; clear hn775_6; clear hn775_7; replace p775 := eq_true p775; replace q775 := eq_true q775)); try go_wp2_with (first | (go_at_call 23; (with_reducible refine (raster_Edge.calls k4 a0_0 a0_1 _ _ l0_2 (wrap64 (x109_4 + a2)) (wrap64 (x104_3 + a3)) t770 t771 t772 t773 _ ?side1 ?side2 A70.out).mono ?_); (case side1 => repeat (first | exact (Kd.C_below HR0_2.out HB.out) | (with_reducible refine Kd.C_alloc ?_ _) | (with_reducible refine Kd.C_drewN ?_ _) | (with_reducible refine Kd.C_drew ?_))); (case side2 => exact HC0_2.out); rintro e w78 ⟨rfl, hb⟩; replace HO_769002 := zr HO_769002 hb; replace BK753 := zk BK753 hb; replace BK768 := zk BK768 hb; replace HB := zb HB hb; (try clear hb); (try clear hb2); (try clear hk); (try clear hi)) | ((with_reducible refine gate_dst (N := 16) rfl ?_); (try (refine gate_guard (by rfl) ?_; dsimp only)); refine box_event ?hg (N := 16) ?hd (cs := #[.int .i64 0, .int .i64 0, .int .i64 0, .int .i64 0]) (t := 48) ?hr ?_; (case hd => rfl); (case hg => rfl); (case hr => first | (go_simp; done) | (go_simp; rfl)); intro gb774 hg w79 hbox hb; have GW774 := zg HB hg; have GE774 := zg HB hg; have NB753_774 := zn BK753 hg; have NB774_753 := zn' BK753 hg; have NB768_774 := zn BK768 hg; have NB774_768 := zn' BK768 hg; have n0_ := Aside0.mk (Kd.R_below (Kd.R_elderB (by exact zr0 HO_769002) gb774 (Nat.le_of_eq hg.symm)) hb); have n1_ := Aside0.mk (hbox); replace BK753 := zk BK753 hb; replace BK768 := zk BK768 hb; replace HB := zb HB hb; clear HO_769002; have HO_769002 := n0_; have BK774 := n1_; clear n0_ n1_; clear hb hbox hg; have hnb80 := NB774_753.out; have hnc80 := NB753_774.out; have hnb81 := NB774_768.out; have hnc81 := NB768_774.out; obtain ⟨hcz82_0, hcz82_1, hcz82_2, hcz82_3, hfz82_0, hfz82_1, hfz82_2, hfz82_3⟩ := zq4 BK774; obtain ⟨hcz83_0, hcz83_1, hcz83_2, hfz83_0, hfz83_1, hfz83_2⟩ := zq3 BK768; obtain ⟨hcz84_0, hcz84_1, hcz84_2, hfz84_0, hfz84_1, hfz84_2⟩ := zq3 BK753; have p775 : 0 ≤ ((ji72) : Int) := of_decide_eq_true (by first | (with_reducible assumption) | assumption); have q775 : (ji72) < (t764.length : Int) := of_decide_eq_true (by first | (with_reducible assumption) | assumption); obtain ⟨ad775, e775, hx775_0, hx775_1, hx775_2, hx775_3⟩ := at_T48 (Kd.R_reads' HO_769002.out).2.2 (ji72) p775 q775; cases e775; have hn775_0 : ad775.block ≠ gb774 := Kd.own_blk (fun e_ => (HO_769002.out.1 _ e_.symm).2 rfl); have hn775_1 : ad775.block ≠ gb774 := Kd.own_blk (fun e_ => (HO_769002.out.1 _ e_.symm).2 rfl); have hn775_2 : ad775.block ≠ gb774 := Kd.own_blk (fun e_ => (HO_769002.out.1 _ e_.symm).2 rfl); have hn775_3 : ad775.block ≠ gb774 := Kd.own_blk (fun e_ => (HO_769002.out.1 _ e_.symm).2 rfl); have hn775_4 : ad775.block ≠ gb774 := Kd.own_blk (fun e_ => (HO_769002.out.1 _ e_.symm).2 rfl); have hn775_5 : ad775.block ≠ gb774 := Kd.own_blk (fun e_ => (HO_769002.out.1 _ e_.symm).2 rfl); have hn775_6 : ad775.block ≠ gb774 := Kd.own_blk (fun e_ => (HO_769002.out.1 _ e_.symm).2 rfl); have hn775_7 : ad775.block ≠ gb774 := Kd.own_blk (fun e_ => (HO_769002.out.1 _ e_.symm).2 rfl); replace hx775_0 := (cell_far (p := ⟨gb774, 0, none⟩) (by first | (rw [add_block]; exact hn775_0) | (show (Addr.add _ _).block ≠ _; rw [add_block]; exact hn775_0) | exact hn775_0) (.int .i64 t770)).trans hx775_0; replace hx775_1 := (cell_far (p := ⟨gb774, 0, none⟩) (by first | (rw [add_block]; exact hn775_0) | (show (Addr.add _ _).block ≠ _; rw [add_block]; exact hn775_0) | exact hn775_0) (.int .i64 t770)).trans hx775_1; replace hx775_2 := (cell_far (p := ⟨gb774, 0, none⟩) (by first | (rw [add_block]; exact hn775_0) | (show (Addr.add _ _).block ≠ _; rw [add_block]; exact hn775_0) | exact hn775_0) (.int .i64 t770)).trans hx775_2; replace hx775_3 := (cell_far (p := ⟨gb774, 0, none⟩) (by first | (rw [add_block]; exact hn775_0) | (show (Addr.add _ _).block ≠ _; rw [add_block]; exact hn775_0) | exact hn775_0) (.int .i64 t770)).trans hx775_3; replace hx775_0 := (cell_far (p := ⟨gb774, 1, none⟩) (by first | (rw [add_block]; exact hn775_1) | (show (Addr.add _ _).block ≠ _; rw [add_block]; exact hn775_1) | exact hn775_1) (.int .i64 t771)).trans hx775_0; replace hx775_1 := (cell_far (p := ⟨gb774, 1, none⟩) (by first | (rw [add_block]; exact hn775_1) | (show (Addr.add _ _).block ≠ _; rw [add_block]; exact hn775_1) | exact hn775_1) (.int .i64 t771)).trans hx775_1; replace hx775_2 := (cell_far (p := ⟨gb774, 1, none⟩) (by first | (rw [add_block]; exact hn775_1) | (show (Addr.add _ _).block ≠ _; rw [add_block]; exact hn775_1) | exact hn775_1) (.int .i64 t771)).trans hx775_2; replace hx775_3 := (cell_far (p := ⟨gb774, 1, none⟩) (by first | (rw [add_block]; exact hn775_1) | (show (Addr.add _ _).block ≠ _; rw [add_block]; exact hn775_1) | exact hn775_1) (.int .i64 t771)).trans hx775_3; replace hx775_0 := (cell_far (p := ⟨gb774, 2, none⟩) (by first | (rw [add_block]; exact hn775_2) | (show (Addr.add _ _).block ≠ _; rw [add_block]; exact hn775_2) | exact hn775_2) (.int .i64 t772)).trans hx775_0; replace hx775_1 := (cell_far (p := ⟨gb774, 2, none⟩) (by first | (rw [add_block]; exact hn775_2) | (show (Addr.add _ _).block ≠ _; rw [add_block]; exact hn775_2) | exact hn775_2) (.int .i64 t772)).trans hx775_1; replace hx775_2 := (cell_far (p := ⟨gb774, 2, none⟩) (by first | (rw [add_block]; exact hn775_2) | (show (Addr.add _ _).block ≠ _; rw [add_block]; exact hn775_2) | exact hn775_2) (.int .i64 t772)).trans hx775_2; replace hx775_3 := (cell_far (p := ⟨gb774, 2, none⟩) (by first | (rw [add_block]; exact hn775_2) | (show (Addr.add _ _).block ≠ _; rw [add_block]; exact hn775_2) | exact hn775_2) (.int .i64 t772)).trans hx775_3; replace hx775_0 := (cell_far (p := ⟨gb774, 3, none⟩) (by first | (rw [add_block]; exact hn775_3) | (show (Addr.add _ _).block ≠ _; rw [add_block]; exact hn775_3) | exact hn775_3) (.int .i64 t773)).trans hx775_0; replace hx775_1 := (cell_far (p := ⟨gb774, 3, none⟩) (by first | (rw [add_block]; exact hn775_3) | (show (Addr.add _ _).block ≠ _; rw [add_block]; exact hn775_3) | exact hn775_3) (.int .i64 t773)).trans hx775_1; replace hx775_2 := (cell_far (p := ⟨gb774, 3, none⟩) (by first | (rw [add_block]; exact hn775_3) | (show (Addr.add _ _).block ≠ _; rw [add_block]; exact hn775_3) | exact hn775_3) (.int .i64 t773)).trans hx775_2; replace hx775_3 := (cell_far (p := ⟨gb774, 3, none⟩) (by first | (rw [add_block]; exact hn775_3) | (show (Addr.add _ _).block ≠ _; rw [add_block]; exact hn775_3) | exact hn775_3) (.int .i64 t773)).trans hx775_3; replace hx775_0 := (cell_far (p := ⟨gb774, 0, none⟩) (by first | (rw [add_block]; exact hn775_4) | (show (Addr.add _ _).block ≠ _; rw [add_block]; exact hn775_4) | exact hn775_4) (.int .i64 0)).trans hx775_0; replace hx775_1 := (cell_far (p := ⟨gb774, 0, none⟩) (by first | (rw [add_block]; exact hn775_4) | (show (Addr.add _ _).block ≠ _; rw [add_block]; exact hn775_4) | exact hn775_4) (.int .i64 0)).trans hx775_1; replace hx775_2 := (cell_far (p := ⟨gb774, 0, none⟩) (by first | (rw [add_block]; exact hn775_4) | (show (Addr.add _ _).block ≠ _; rw [add_block]; exact hn775_4) | exact hn775_4) (.int .i64 0)).trans hx775_2; replace hx775_3 := (cell_far (p := ⟨gb774, 0, none⟩) (by first | (rw [add_block]; exact hn775_4) | (show (Addr.add _ _).block ≠ _; rw [add_block]; exact hn775_4) | exact hn775_4) (.int .i64 0)).trans hx775_3; replace hx775_0 := (cell_far (p := ⟨gb774, 1, none⟩) (by first | (rw [add_block]; exact hn775_5) | (show (Addr.add _ _).block ≠ _; rw [add_block]; exact hn775_5) | exact hn775_5) (.int .i64 0)).trans hx775_0; replace hx775_1 := (cell_far (p := ⟨gb774, 1, none⟩) (by first | (rw [add_block]; exact hn775_5) | (show (Addr.add _ _).block ≠ _; rw [add_block]; exact hn775_5) | exact hn775_5) (.int .i64 0)).trans hx775_1; replace hx775_2 := (cell_far (p := ⟨gb774, 1, none⟩) (by first | (rw [add_block]; exact hn775_5) | (show (Addr.add _ _).block ≠ _; rw [add_block]; exact hn775_5) | exact hn775_5) (.int .i64 0)).trans hx775_2; replace hx775_3 := (cell_far (p := ⟨gb774, 1, none⟩) (by first | (rw [add_block]; exact hn775_5) | (show (Addr.add _ _).block ≠ _; rw [add_block]; exact hn775_5) | exact hn775_5) (.int .i64 0)).trans hx775_3; replace hx775_0 := (cell_far (p := ⟨gb774, 2, none⟩) (by first | (rw [add_block]; exact hn775_6) | (show (Addr.add _ _).block ≠ _; rw [add_block]; exact hn775_6) | exact hn775_6) (.int .i64 0)).trans hx775_0; replace hx775_1 := (cell_far (p := ⟨gb774, 2, none⟩) (by first | (rw [add_block]; exact hn775_6) | (show (Addr.add _ _).block ≠ _; rw [add_block]; exact hn775_6) | exact hn775_6) (.int .i64 0)).trans hx775_1; replace hx775_2 := (cell_far (p := ⟨gb774, 2, none⟩) (by first | (rw [add_block]; exact hn775_6) | (show (Addr.add _ _).block ≠ _; rw [add_block]; exact hn775_6) | exact hn775_6) (.int .i64 0)).trans hx775_2; replace hx775_3 := (cell_far (p := ⟨gb774, 2, none⟩) (by first | (rw [add_block]; exact hn775_6) | (show (Addr.add _ _).block ≠ _; rw [add_block]; exact hn775_6) | exact hn775_6) (.int .i64 0)).trans hx775_3; replace hx775_0 := (cell_far (p := ⟨gb774, 3, none⟩) (by first | (rw [add_block]; exact hn775_7) | (show (Addr.add _ _).block ≠ _; rw [add_block]; exact hn775_7) | exact hn775_7) (.int .i64 0)).trans hx775_0; replace hx775_1 := (cell_far (p := ⟨gb774, 3, none⟩) (by first | (rw [add_block]; exact hn775_7) | (show (Addr.add _ _).block ≠ _; rw [add_block]; exact hn775_7) | exact hn775_7) (.int .i64 0)).trans hx775_1; replace hx775_2 := (cell_far (p := ⟨gb774, 3, none⟩) (by first | (rw [add_block]; exact hn775_7) | (show (Addr.add _ _).block ≠ _; rw [add_block]; exact hn775_7) | exact hn775_7) (.int .i64 0)).trans hx775_2; replace hx775_3 := (cell_far (p := ⟨gb774, 3, none⟩) (by first | (rw [add_block]; exact hn775_7) | (show (Addr.add _ _).block ≠ _; rw [add_block]; exact hn775_7) | exact hn775_7) (.int .i64 0)).trans hx775_3; (try have hy775_0 := fun (n_ : Nat) => (show ((((((((((w79.drewN n_).setCell ⟨gb774, 0, none⟩ (.int .i64 t770)).setCell ⟨gb774, 1, none⟩ (.int .i64 t771)).setCell ⟨gb774, 2, none⟩ (.int .i64 t772)).setCell ⟨gb774, 3, none⟩ (.int .i64 t773)).setCell ⟨gb774, 0, none⟩ (.int .i64 0)).setCell ⟨gb774, 1, none⟩ (.int .i64 0)).setCell ⟨gb774, 2, none⟩ (.int .i64 0)).setCell ⟨gb774, 3, none⟩ (.int .i64 0))).cell? _ = some _ from hx775_0)); (try have hy775_1 := fun (n_ : Nat) => (show ((((((((((w79.drewN n_).setCell ⟨gb774, 0, none⟩ (.int .i64 t770)).setCell ⟨gb774, 1, none⟩ (.int .i64 t771)).setCell ⟨gb774, 2, none⟩ (.int .i64 t772)).setCell ⟨gb774, 3, none⟩ (.int .i64 t773)).setCell ⟨gb774, 0, none⟩ (.int .i64 0)).setCell ⟨gb774, 1, none⟩ (.int .i64 0)).setCell ⟨gb774, 2, none⟩ (.int .i64 0)).setCell ⟨gb774, 3, none⟩ (.int .i64 0))).cell? _ = some _ from hx775_1)); (try have hy775_2 := fun (n_ : Nat) => (show ((((((((((w79.drewN n_).setCell ⟨gb774, 0, none⟩ (.int .i64 t770)).setCell ⟨gb774, 1, none⟩ (.int .i64 t771)).setCell ⟨gb774, 2, none⟩ (.int .i64 t772)).setCell ⟨gb774, 3, none⟩ (.int .i64 t773)).setCell ⟨gb774, 0, none⟩ (.int .i64 0)).setCell ⟨gb774, 1, none⟩ (.int .i64 0)).setCell ⟨gb774, 2, none⟩ (.int .i64 0)).setCell ⟨gb774, 3, none⟩ (.int .i64 0))).cell? _ = some _ from hx775_2)); (try have hy775_3 := fun (n_ : Nat) => (show ((((((((((w79.drewN n_).setCell ⟨gb774, 0, none⟩ (.int .i64 t770)).setCell ⟨gb774, 1, none⟩ (.int .i64 t771)).setCell ⟨gb774, 2, none⟩ (.int .i64 t772)).setCell ⟨gb774, 3, none⟩ (.int .i64 t773)).setCell ⟨gb774, 0, none⟩ (.int .i64 0)).setCell ⟨gb774, 1, none⟩ (.int .i64 0)).setCell ⟨gb774, 2, none⟩ (.int .i64 0)).setCell ⟨gb774, 3, none⟩ (.int .i64 0))).cell? _ = some _ from hx775_3)); clear hn775_0; clear hn775_1; clear hn775_2; clear hn775_3; clear hn775_4; clear hn775_5; clear hn775_6; clear hn775_7; replace p775 := eq_true p775; replace q775 := eq_true q775)))
                  first | go_roundg k4 | ((try subst hji72); go_roundg k4)
                  case measure => have := HJ4.out; have := HJ33.out; have := HK3.out; have := HK4.out; omega
                  case rel => first | (exact ⟨(wrap64 (x109_4 + 1)), (by first | rfl | (simp; done) | (simp [*]; done)), H', ⟨by have := HJ4.out; have := HJ33.out; have := HK3.out; have := HK4.out; omega⟩, ⟨by exact Kd.R_mono (zro' (g := gb774) HO_769002 (fun _ hk => hk.2)) (fun _ _ => trivial)⟩, ⟨by exact zf BK753 NB753_774⟩, ⟨by exact zf BK768 NB768_774⟩, ⟨by exact zbo HB GE774⟩⟩) | (exact ⟨(wrap64 (x109_4 + 1)), (by first | rfl | (simp; done) | (simp [*]; done)), H', ⟨by have := HJ4.out; have := HJ33.out; have := HK3.out; have := HK4.out; omega⟩, ⟨by exact Kd.R_mono (zro' (g := gb774) HO_769002 (fun _ hk => hk.2)) (fun _ _ => trivial)⟩, ⟨by exact zf BK753 NB753_774⟩, ⟨by exact zf BK768 NB768_774⟩, ⟨by exact zbo HB GE774⟩⟩)
               ·rw [if_neg c74] at H
                exact absurd H (by simp)
              ·rw [if_neg c73] at H
               exact absurd H (by simp)
             ·rw [if_neg c71] at H
              have c71b0 : (t773 == 0) = false := beq_eq_false_iff_ne.mpr c71
              have c71b1 : (t773 != 0) = true := bne_iff_ne.mpr c71
              obtain ⟨ji85, hji85⟩ : ∃ j_ : Int, (wrap64 ((wrap64 (x104_3 * a0_0)) + x109_4)) = j_ := ⟨_, rfl⟩
              replace H : (if 0 ≤ (ji85) then (if (ji85) < (t764.length : Int) then (if (!(((rd_T48 t764 (ji85)).f0) == t770) || (!(((rd_T48 t764 (ji85)).f1) == t771) || (!(((rd_T48 t764 (ji85)).f2) == t772) || (!(((rd_T48 t764 (ji85)).f3) == t773))))) = true then (some false) else (imageeditorlaw15_WarpMoves.l1 k4 a2 a3 x104_3 a0_1 x104_3 a0_0 (wrap64 (x109_4 + 1)) a0_0 a0_1 l0_2 t762 t763 t764)) else (none)) else (none)) = some r := by first | (rw [hji85] at H; exact H) | (simp only [hji85] at H ⊢; exact H)
              (try rw [hji85] at A70)
              have hji85w : (IntKind.i64.wrap ((wrap64 (x104_3 * a0_0)) + x109_4)) = ji85 := (i64_w _).trans hji85
              have hji85q : (IntKind.i64.wrap ((IntKind.i64.wrap (x104_3 * a0_0)) + x109_4)) = ji85 := by simpa only [i64_w] using hji85
              by_cases c86 : 0 ≤ (ji85)
              ·rw [if_pos c86] at H
               have c86b0 : decide (0 ≤ (ji85)) = true := decide_eq_true c86
               clear c86
               by_cases c87 : (ji85) < (t764.length : Int)
               ·rw [if_pos c87] at H
                have c87b0 : decide ((ji85) < (t764.length : Int)) = true := decide_eq_true c87
                clear c87
                by_cases c88 : (!(((rd_T48 t764 (ji85)).f0) == t770) || (!(((rd_T48 t764 (ji85)).f1) == t771) || (!(((rd_T48 t764 (ji85)).f2) == t772) || (!(((rd_T48 t764 (ji85)).f3) == t773))))) = true
                ·rw [if_pos c88] at H
                 have c88b0 : (!(((rd_T48 t764 (ji85)).f0) == t770) || (!(((rd_T48 t764 (ji85)).f1) == t771) || (!(((rd_T48 t764 (ji85)).f2) == t772) || (!(((rd_T48 t764 (ji85)).f3) == t773))))) = true := c88
                 clear c88
                 as_aux_lemma =>
                  exact absurd HT.out (by rw [← Option.some.inj H]; decide)
                ·rw [if_neg c88] at H
                 have c88b0 : (!(((rd_T48 t764 (ji85)).f0) == t770) || (!(((rd_T48 t764 (ji85)).f1) == t771) || (!(((rd_T48 t764 (ji85)).f2) == t772) || (!(((rd_T48 t764 (ji85)).f3) == t773))))) = false := by simpa using c88
                 clear c88
                 as_aux_lemma =>
                  have H' := Aside0.mk H
                  clear H
                  have hnb89 := NB753_768.out
                  have hnc89 := NB768_753.out
                  obtain ⟨hcz90_0, hcz90_1, hcz90_2, hfz90_0, hfz90_1, hfz90_2⟩ := zq3 BK753
                  go_wp2_with (first | (go_at_call 23; (with_reducible refine (raster_Edge.calls k4 a0_0 a0_1 _ _ l0_2 (wrap64 (x109_4 + a2)) (wrap64 (x104_3 + a3)) t770 t771 t772 t773 _ ?side1 ?side2 A70.out).mono ?_); (case side1 => repeat (first | exact (Kd.C_below HR0_2.out HB.out) | (with_reducible refine Kd.C_alloc ?_ _) | (with_reducible refine Kd.C_drewN ?_ _) | (with_reducible refine Kd.C_drew ?_))); (case side2 => exact HC0_2.out); rintro e w91 ⟨rfl, hb⟩; replace HO_769002 := zr HO_769002 hb; replace BK753 := zk BK753 hb; replace BK768 := zk BK768 hb; replace HB := zb HB hb; (try clear hb); (try clear hb2); (try clear hk); (try clear hi)) | ((with_reducible refine gate_dst (N := 16) rfl ?_); (try (refine gate_guard (by rfl) ?_; dsimp only)); refine box_event ?hg (N := 16) ?hd (cs := #[.int .i64 0, .int .i64 0, .int .i64 0, .int .i64 0]) (t := 48) ?hr ?_; (case hd => rfl); (case hg => rfl); (case hr => first | (go_simp; done) | (go_simp; rfl)); intro gb774 hg w92 hbox hb; have GW774 := zg HB hg; have GE774 := zg HB hg; have NB753_774 := zn BK753 hg; have NB774_753 := zn' BK753 hg; have NB768_774 := zn BK768 hg; have NB774_768 := zn' BK768 hg; have n0_ := Aside0.mk (Kd.R_below (Kd.R_elderB (by exact zr0 HO_769002) gb774 (Nat.le_of_eq hg.symm)) hb); have n1_ := Aside0.mk (hbox); replace BK753 := zk BK753 hb; replace BK768 := zk BK768 hb; replace HB := zb HB hb; clear HO_769002; have HO_769002 := n0_; have BK774 := n1_; clear n0_ n1_; clear hb hbox hg; have hnb93 := NB774_753.out; have hnc93 := NB753_774.out; have hnb94 := NB774_768.out; have hnc94 := NB768_774.out; obtain ⟨hcz95_0, hcz95_1, hcz95_2, hcz95_3, hfz95_0, hfz95_1, hfz95_2, hfz95_3⟩ := zq4 BK774; obtain ⟨hcz96_0, hcz96_1, hcz96_2, hfz96_0, hfz96_1, hfz96_2⟩ := zq3 BK768; obtain ⟨hcz97_0, hcz97_1, hcz97_2, hfz97_0, hfz97_1, hfz97_2⟩ := zq3 BK753; have p776 : 0 ≤ ((ji85) : Int) := of_decide_eq_true (by first | (with_reducible assumption) | assumption); have q776 : (ji85) < (t764.length : Int) := of_decide_eq_true (by first | (with_reducible assumption) | assumption); obtain ⟨ad776, e776, hx776_0, hx776_1, hx776_2, hx776_3⟩ := at_T48 (Kd.R_reads' HO_769002.out).2.2 (ji85) p776 q776; cases e776; have hn776_0 : ad776.block ≠ gb774 := Kd.own_blk (fun e_ => (HO_769002.out.1 _ e_.symm).2 rfl); have hn776_1 : ad776.block ≠ gb774 := Kd.own_blk (fun e_ => (HO_769002.out.1 _ e_.symm).2 rfl); have hn776_2 : ad776.block ≠ gb774 := Kd.own_blk (fun e_ => (HO_769002.out.1 _ e_.symm).2 rfl); have hn776_3 : ad776.block ≠ gb774 := Kd.own_blk (fun e_ => (HO_769002.out.1 _ e_.symm).2 rfl); (try have hy776_0 := fun (n_ : Nat) => (show (w92.drewN n_).cell? _ = some _ from hx776_0)); replace hx776_0 := (cell_far (p := ⟨gb774, 0, none⟩) (by first | (rw [add_block]; exact hn776_0) | (show (Addr.add _ _).block ≠ _; rw [add_block]; exact hn776_0) | exact hn776_0) (.int .i64 t770)).trans hx776_0; (try replace hy776_0 := fun (n_ : Nat) => (cell_far (p := ⟨gb774, 0, none⟩) (by first | (rw [add_block]; exact hn776_0) | (show (Addr.add _ _).block ≠ _; rw [add_block]; exact hn776_0) | exact hn776_0) (.int .i64 t770)).trans (hy776_0 n_)); (try have hy776_1 := fun (n_ : Nat) => (show (w92.drewN n_).cell? _ = some _ from hx776_1)); replace hx776_1 := (cell_far (p := ⟨gb774, 0, none⟩) (by first | (rw [add_block]; exact hn776_0) | (show (Addr.add _ _).block ≠ _; rw [add_block]; exact hn776_0) | exact hn776_0) (.int .i64 t770)).trans hx776_1; (try replace hy776_1 := fun (n_ : Nat) => (cell_far (p := ⟨gb774, 0, none⟩) (by first | (rw [add_block]; exact hn776_0) | (show (Addr.add _ _).block ≠ _; rw [add_block]; exact hn776_0) | exact hn776_0) (.int .i64 t770)).trans (hy776_1 n_)); (try have hy776_2 := fun (n_ : Nat) => (show (w92.drewN n_).cell? _ = some _ from hx776_2)); replace hx776_2 := (cell_far (p := ⟨gb774, 0, none⟩) (by first | (rw [add_block]; exact hn776_0) | (show (Addr.add _ _).block ≠ _; rw [add_block]; exact hn776_0) | exact hn776_0) (.int .i64 t770)).trans hx776_2; (try replace hy776_2 := fun (n_ : Nat) => (cell_far (p := ⟨gb774, 0, none⟩) (by first | (rw [add_block]; exact hn776_0) | (show (Addr.add _ _).block ≠ _; rw [add_block]; exact hn776_0) | exact hn776_0) (.int .i64 t770)).trans (hy776_2 n_)); (try have hy776_3 := fun (n_ : Nat) => (show (w92.drewN n_).cell? _ = some _ from hx776_3)); replace hx776_3 := (cell_far (p := ⟨gb774, 0, none⟩) (by first | (rw [add_block]; exact hn776_0) | (show (Addr.add _ _).block ≠ _; rw [add_block]; exact hn776_0) | exact hn776_0) (.int .i64 t770)).trans hx776_3; (try replace hy776_3 := fun (n_ : Nat) => (cell_far (p := ⟨gb774, 0, none⟩) (by first | (rw [add_block]; exact hn776_0) | (show (Addr.add _ _).block ≠ _; rw [add_block]; exact hn776_0) | exact hn776_0) (.int .i64 t770)).trans (hy776_3 n_)); replace hx776_0 := (cell_far (p := ⟨gb774, 1, none⟩) (by first | (rw [add_block]; exact hn776_1) | (show (Addr.add _ _).block ≠ _; rw [add_block]; exact hn776_1) | exact hn776_1) (.int .i64 t771)).trans hx776_0; (try replace hy776_0 := fun (n_ : Nat) => (cell_far (p := ⟨gb774, 1, none⟩) (by first | (rw [add_block]; exact hn776_1) | (show (Addr.add _ _).block ≠ _; rw [add_block]; exact hn776_1) | exact hn776_1) (.int .i64 t771)).trans (hy776_0 n_)); replace hx776_1 := (cell_far (p := ⟨gb774, 1, none⟩) (by first | (rw [add_block]; exact hn776_1) | (show (Addr.add _ _).block ≠ _; rw [add_block]; exact hn776_1) | exact hn776_1) (.int .i64 t771)).trans hx776_1; (try replace hy776_1 := fun (n_ : Nat) => (cell_far (p := ⟨gb774, 1, none⟩) (by first | (rw [add_block]; exact hn776_1) | (show (Addr.add _ _).block ≠ _; rw [add_block]; exact hn776_1) | exact hn776_1) (.int .i64 t771)).trans (hy776_1 n_)); replace hx776_2 := (cell_far (p := ⟨gb774, 1, none⟩) (by first | (rw [add_block]; exact hn776_1) | (show (Addr.add _ _).block ≠ _; rw [add_block]; exact hn776_1) | exact hn776_1) (.int .i64 t771)).trans hx776_2; (try replace hy776_2 := fun (n_ : Nat) => (cell_far (p := ⟨gb774, 1, none⟩) (by first | (rw [add_block]; exact hn776_1) | (show (Addr.add _ _).block ≠ _; rw [add_block]; exact hn776_1) | exact hn776_1) (.int .i64 t771)).trans (hy776_2 n_)); replace hx776_3 := (cell_far (p := ⟨gb774, 1, none⟩) (by first | (rw [add_block]; exact hn776_1) | (show (Addr.add _ _).block ≠ _; rw [add_block]; exact hn776_1) | exact hn776_1) (.int .i64 t771)).trans hx776_3; (try replace hy776_3 := fun (n_ : Nat) => (cell_far (p := ⟨gb774, 1, none⟩) (by first | (rw [add_block]; exact hn776_1) | (show (Addr.add _ _).block ≠ _; rw [add_block]; exact hn776_1) | exact hn776_1) (.int .i64 t771)).trans (hy776_3 n_)); replace hx776_0 := (cell_far (p := ⟨gb774, 2, none⟩) (by first | (rw [add_block]; exact hn776_2) | (show (Addr.add _ _).block ≠ _; rw [add_block]; exact hn776_2) | exact hn776_2) (.int .i64 t772)).trans hx776_0; (try replace hy776_0 := fun (n_ : Nat) => (cell_far (p := ⟨gb774, 2, none⟩) (by first | (rw [add_block]; exact hn776_2) | (show (Addr.add _ _).block ≠ _; rw [add_block]; exact hn776_2) | exact hn776_2) (.int .i64 t772)).trans (hy776_0 n_)); replace hx776_1 := (cell_far (p := ⟨gb774, 2, none⟩) (by first | (rw [add_block]; exact hn776_2) | (show (Addr.add _ _).block ≠ _; rw [add_block]; exact hn776_2) | exact hn776_2) (.int .i64 t772)).trans hx776_1; (try replace hy776_1 := fun (n_ : Nat) => (cell_far (p := ⟨gb774, 2, none⟩) (by first | (rw [add_block]; exact hn776_2) | (show (Addr.add _ _).block ≠ _; rw [add_block]; exact hn776_2) | exact hn776_2) (.int .i64 t772)).trans (hy776_1 n_)); replace hx776_2 := (cell_far (p := ⟨gb774, 2, none⟩) (by first | (rw [add_block]; exact hn776_2) | (show (Addr.add _ _).block ≠ _; rw [add_block]; exact hn776_2) | exact hn776_2) (.int .i64 t772)).trans hx776_2; (try replace hy776_2 := fun (n_ : Nat) => (cell_far (p := ⟨gb774, 2, none⟩) (by first | (rw [add_block]; exact hn776_2) | (show (Addr.add _ _).block ≠ _; rw [add_block]; exact hn776_2) | exact hn776_2) (.int .i64 t772)).trans (hy776_2 n_)); replace hx776_3 := (cell_far (p := ⟨gb774, 2, none⟩) (by first | (rw [add_block]; exact hn776_2) | (show (Addr.add _ _).block ≠ _; rw [add_block]; exact hn776_2) | exact hn776_2) (.int .i64 t772)).trans hx776_3; (try replace hy776_3 := fun (n_ : Nat) => (cell_far (p := ⟨gb774, 2, none⟩) (by first | (rw [add_block]; exact hn776_2) | (show (Addr.add _ _).block ≠ _; rw [add_block]; exact hn776_2) | exact hn776_2) (.int .i64 t772)).trans (hy776_3 n_)); replace hx776_0 := (cell_far (p := ⟨gb774, 3, none⟩) (by first | (rw [add_block]; exact hn776_3) | (show (Addr.add _ _).block ≠ _; rw [add_block]; exact hn776_3) | exact hn776_3) (.int .i64 t773)).trans hx776_0; (try replace hy776_0 := fun (n_ : Nat) => (cell_far (p := ⟨gb774, 3, none⟩) (by first | (rw [add_block]; exact hn776_3) | (show (Addr.add _ _).block ≠ _; rw [add_block]; exact hn776_3) | exact hn776_3) (.int .i64 t773)).trans (hy776_0 n_)); replace hx776_1 := (cell_far (p := ⟨gb774, 3, none⟩) (by first | (rw [add_block]; exact hn776_3) | (show (Addr.add _ _).block ≠ _; rw [add_block]; exact hn776_3) | exact hn776_3) (.int .i64 t773)).trans hx776_1; (try replace hy776_1 := fun (n_ : Nat) => (cell_far (p := ⟨gb774, 3, none⟩) (by first | (rw [add_block]; exact hn776_3) | (show (Addr.add _ _).block ≠ _; rw [add_block]; exact hn776_3) | exact hn776_3) (.int .i64 t773)).trans (hy776_1 n_)); replace hx776_2 := (cell_far (p := ⟨gb774, 3, none⟩) (by first | (rw [add_block]; exact hn776_3) | (show (Addr.add _ _).block ≠ _; rw [add_block]; exact hn776_3) | exact hn776_3) (.int .i64 t773)).trans hx776_2; (try replace hy776_2 := fun (n_ : Nat) => (cell_far (p := ⟨gb774, 3, none⟩) (by first | (rw [add_block]; exact hn776_3) | (show (Addr.add _ _).block ≠ _; rw [add_block]; exact hn776_3) | exact hn776_3) (.int .i64 t773)).trans (hy776_2 n_)); replace hx776_3 := (cell_far (p := ⟨gb774, 3, none⟩) (by first | (rw [add_block]; exact hn776_3) | (show (Addr.add _ _).block ≠ _; rw [add_block]; exact hn776_3) | exact hn776_3) (.int .i64 t773)).trans hx776_3; (try replace hy776_3 := fun (n_ : Nat) => (cell_far (p := ⟨gb774, 3, none⟩) (by first | (rw [add_block]; exact hn776_3) | (show (Addr.add _ _).block ≠ _; rw [add_block]; exact hn776_3) | exact hn776_3) (.int .i64 t773)).trans (hy776_3 n_)); clear hn776_0; clear hn776_1; clear hn776_2; clear hn776_3; replace p776 := eq_true p776; replace q776 := eq_true q776))
                  repeat (go_quiet (first | (go_at_call 23; (with_reducible refine (raster_Edge.calls k4 a0_0 a0_1 _ _ l0_2 (wrap64 (x109_4 + a2)) (wrap64 (x104_3 + a3)) t770 t771 t772 t773 _ ?side1 ?side2 A70.out).mono ?_); (case side1 => repeat (first | exact (Kd.C_below HR0_2.out HB.out) | (with_reducible refine Kd.C_alloc ?_ _) | (with_reducible refine Kd.C_drewN ?_ _) | (with_reducible refine Kd.C_drew ?_))); (case side2 => exact HC0_2.out); rintro e w91 ⟨rfl, hb⟩; replace HO_769002 := zr HO_769002 hb; replace BK753 := zk BK753 hb; replace BK768 := zk BK768 hb; replace HB := zb HB hb; (try clear hb); (try clear hb2); (try clear hk); (try clear hi)) | ((with_reducible refine gate_dst (N := 16) rfl ?_); (try (refine gate_guard (by rfl) ?_; dsimp only)); refine box_event ?hg (N := 16) ?hd (cs := #[.int .i64 0, .int .i64 0, .int .i64 0, .int .i64 0]) (t := 48) ?hr ?_; (case hd => rfl); (case hg => rfl); (case hr => first | (go_simp; done) | (go_simp; rfl)); intro gb774 hg w92 hbox hb; have GW774 := zg HB hg; have GE774 := zg HB hg; have NB753_774 := zn BK753 hg; have NB774_753 := zn' BK753 hg; have NB768_774 := zn BK768 hg; have NB774_768 := zn' BK768 hg; have n0_ := Aside0.mk (Kd.R_below (Kd.R_elderB (by exact zr0 HO_769002) gb774 (Nat.le_of_eq hg.symm)) hb); have n1_ := Aside0.mk (hbox); replace BK753 := zk BK753 hb; replace BK768 := zk BK768 hb; replace HB := zb HB hb; clear HO_769002; have HO_769002 := n0_; have BK774 := n1_; clear n0_ n1_; clear hb hbox hg; have hnb93 := NB774_753.out; have hnc93 := NB753_774.out; have hnb94 := NB774_768.out; have hnc94 := NB768_774.out; obtain ⟨hcz95_0, hcz95_1, hcz95_2, hcz95_3, hfz95_0, hfz95_1, hfz95_2, hfz95_3⟩ := zq4 BK774; obtain ⟨hcz96_0, hcz96_1, hcz96_2, hfz96_0, hfz96_1, hfz96_2⟩ := zq3 BK768; obtain ⟨hcz97_0, hcz97_1, hcz97_2, hfz97_0, hfz97_1, hfz97_2⟩ := zq3 BK753; have p776 : 0 ≤ ((ji85) : Int) := of_decide_eq_true (by first | (with_reducible assumption) | assumption); have q776 : (ji85) < (t764.length : Int) := of_decide_eq_true (by first | (with_reducible assumption) | assumption); obtain ⟨ad776, e776, hx776_0, hx776_1, hx776_2, hx776_3⟩ := at_T48 (Kd.R_reads' HO_769002.out).2.2 (ji85) p776 q776; cases e776; have hn776_0 : ad776.block ≠ gb774 := Kd.own_blk (fun e_ => (HO_769002.out.1 _ e_.symm).2 rfl); have hn776_1 : ad776.block ≠ gb774 := Kd.own_blk (fun e_ => (HO_769002.out.1 _ e_.symm).2 rfl); have hn776_2 : ad776.block ≠ gb774 := Kd.own_blk (fun e_ => (HO_769002.out.1 _ e_.symm).2 rfl); have hn776_3 : ad776.block ≠ gb774 := Kd.own_blk (fun e_ => (HO_769002.out.1 _ e_.symm).2 rfl); replace hx776_0 := (cell_far (p := ⟨gb774, 0, none⟩) (by first | (rw [add_block]; exact hn776_0) | (show (Addr.add _ _).block ≠ _; rw [add_block]; exact hn776_0) | exact hn776_0) (.int .i64 t770)).trans hx776_0; replace hx776_1 := (cell_far (p := ⟨gb774, 0, none⟩) (by first | (rw [add_block]; exact hn776_0) | (show (Addr.add _ _).block ≠ _; rw [add_block]; exact hn776_0) | exact hn776_0) (.int .i64 t770)).trans hx776_1; replace hx776_2 := (cell_far (p := ⟨gb774, 0, none⟩) (by first | (rw [add_block]; exact hn776_0) | (show (Addr.add _ _).block ≠ _; rw [add_block]; exact hn776_0) | exact hn776_0) (.int .i64 t770)).trans hx776_2; replace hx776_3 := (cell_far (p := ⟨gb774, 0, none⟩) (by first | (rw [add_block]; exact hn776_0) | (show (Addr.add _ _).block ≠ _; rw [add_block]; exact hn776_0) | exact hn776_0) (.int .i64 t770)).trans hx776_3; replace hx776_0 := (cell_far (p := ⟨gb774, 1, none⟩) (by first | (rw [add_block]; exact hn776_1) | (show (Addr.add _ _).block ≠ _; rw [add_block]; exact hn776_1) | exact hn776_1) (.int .i64 t771)).trans hx776_0; replace hx776_1 := (cell_far (p := ⟨gb774, 1, none⟩) (by first | (rw [add_block]; exact hn776_1) | (show (Addr.add _ _).block ≠ _; rw [add_block]; exact hn776_1) | exact hn776_1) (.int .i64 t771)).trans hx776_1; replace hx776_2 := (cell_far (p := ⟨gb774, 1, none⟩) (by first | (rw [add_block]; exact hn776_1) | (show (Addr.add _ _).block ≠ _; rw [add_block]; exact hn776_1) | exact hn776_1) (.int .i64 t771)).trans hx776_2; replace hx776_3 := (cell_far (p := ⟨gb774, 1, none⟩) (by first | (rw [add_block]; exact hn776_1) | (show (Addr.add _ _).block ≠ _; rw [add_block]; exact hn776_1) | exact hn776_1) (.int .i64 t771)).trans hx776_3; replace hx776_0 := (cell_far (p := ⟨gb774, 2, none⟩) (by first | (rw [add_block]; exact hn776_2) | (show (Addr.add _ _).block ≠ _; rw [add_block]; exact hn776_2) | exact hn776_2) (.int .i64 t772)).trans hx776_0; replace hx776_1 := (cell_far (p := ⟨gb774, 2, none⟩) (by first | (rw [add_block]; exact hn776_2) | (show (Addr.add _ _).block ≠ _; rw [add_block]; exact hn776_2) | exact hn776_2) (.int .i64 t772)).trans hx776_1; replace hx776_2 := (cell_far (p := ⟨gb774, 2, none⟩) (by first | (rw [add_block]; exact hn776_2) | (show (Addr.add _ _).block ≠ _; rw [add_block]; exact hn776_2) | exact hn776_2) (.int .i64 t772)).trans hx776_2; replace hx776_3 := (cell_far (p := ⟨gb774, 2, none⟩) (by first | (rw [add_block]; exact hn776_2) | (show (Addr.add _ _).block ≠ _; rw [add_block]; exact hn776_2) | exact hn776_2) (.int .i64 t772)).trans hx776_3; replace hx776_0 := (cell_far (p := ⟨gb774, 3, none⟩) (by first | (rw [add_block]; exact hn776_3) | (show (Addr.add _ _).block ≠ _; rw [add_block]; exact hn776_3) | exact hn776_3) (.int .i64 t773)).trans hx776_0; replace hx776_1 := (cell_far (p := ⟨gb774, 3, none⟩) (by first | (rw [add_block]; exact hn776_3) | (show (Addr.add _ _).block ≠ _; rw [add_block]; exact hn776_3) | exact hn776_3) (.int .i64 t773)).trans hx776_1; replace hx776_2 := (cell_far (p := ⟨gb774, 3, none⟩) (by first | (rw [add_block]; exact hn776_3) | (show (Addr.add _ _).block ≠ _; rw [add_block]; exact hn776_3) | exact hn776_3) (.int .i64 t773)).trans hx776_2; replace hx776_3 := (cell_far (p := ⟨gb774, 3, none⟩) (by first | (rw [add_block]; exact hn776_3) | (show (Addr.add _ _).block ≠ _; rw [add_block]; exact hn776_3) | exact hn776_3) (.int .i64 t773)).trans hx776_3; (try have hy776_0 := fun (n_ : Nat) => (show ((((((w92.drewN n_).setCell ⟨gb774, 0, none⟩ (.int .i64 t770)).setCell ⟨gb774, 1, none⟩ (.int .i64 t771)).setCell ⟨gb774, 2, none⟩ (.int .i64 t772)).setCell ⟨gb774, 3, none⟩ (.int .i64 t773))).cell? _ = some _ from hx776_0)); (try have hy776_1 := fun (n_ : Nat) => (show ((((((w92.drewN n_).setCell ⟨gb774, 0, none⟩ (.int .i64 t770)).setCell ⟨gb774, 1, none⟩ (.int .i64 t771)).setCell ⟨gb774, 2, none⟩ (.int .i64 t772)).setCell ⟨gb774, 3, none⟩ (.int .i64 t773))).cell? _ = some _ from hx776_1)); (try have hy776_2 := fun (n_ : Nat) => (show ((((((w92.drewN n_).setCell ⟨gb774, 0, none⟩ (.int .i64 t770)).setCell ⟨gb774, 1, none⟩ (.int .i64 t771)).setCell ⟨gb774, 2, none⟩ (.int .i64 t772)).setCell ⟨gb774, 3, none⟩ (.int .i64 t773))).cell? _ = some _ from hx776_2)); (try have hy776_3 := fun (n_ : Nat) => (show ((((((w92.drewN n_).setCell ⟨gb774, 0, none⟩ (.int .i64 t770)).setCell ⟨gb774, 1, none⟩ (.int .i64 t771)).setCell ⟨gb774, 2, none⟩ (.int .i64 t772)).setCell ⟨gb774, 3, none⟩ (.int .i64 t773))).cell? _ = some _ from hx776_3)); clear hn776_0; clear hn776_1; clear hn776_2; clear hn776_3; replace p776 := eq_true p776; replace q776 := eq_true q776)); try go_wp2_with (first | (go_at_call 23; (with_reducible refine (raster_Edge.calls k4 a0_0 a0_1 _ _ l0_2 (wrap64 (x109_4 + a2)) (wrap64 (x104_3 + a3)) t770 t771 t772 t773 _ ?side1 ?side2 A70.out).mono ?_); (case side1 => repeat (first | exact (Kd.C_below HR0_2.out HB.out) | (with_reducible refine Kd.C_alloc ?_ _) | (with_reducible refine Kd.C_drewN ?_ _) | (with_reducible refine Kd.C_drew ?_))); (case side2 => exact HC0_2.out); rintro e w91 ⟨rfl, hb⟩; replace HO_769002 := zr HO_769002 hb; replace BK753 := zk BK753 hb; replace BK768 := zk BK768 hb; replace HB := zb HB hb; (try clear hb); (try clear hb2); (try clear hk); (try clear hi)) | ((with_reducible refine gate_dst (N := 16) rfl ?_); (try (refine gate_guard (by rfl) ?_; dsimp only)); refine box_event ?hg (N := 16) ?hd (cs := #[.int .i64 0, .int .i64 0, .int .i64 0, .int .i64 0]) (t := 48) ?hr ?_; (case hd => rfl); (case hg => rfl); (case hr => first | (go_simp; done) | (go_simp; rfl)); intro gb774 hg w92 hbox hb; have GW774 := zg HB hg; have GE774 := zg HB hg; have NB753_774 := zn BK753 hg; have NB774_753 := zn' BK753 hg; have NB768_774 := zn BK768 hg; have NB774_768 := zn' BK768 hg; have n0_ := Aside0.mk (Kd.R_below (Kd.R_elderB (by exact zr0 HO_769002) gb774 (Nat.le_of_eq hg.symm)) hb); have n1_ := Aside0.mk (hbox); replace BK753 := zk BK753 hb; replace BK768 := zk BK768 hb; replace HB := zb HB hb; clear HO_769002; have HO_769002 := n0_; have BK774 := n1_; clear n0_ n1_; clear hb hbox hg; have hnb93 := NB774_753.out; have hnc93 := NB753_774.out; have hnb94 := NB774_768.out; have hnc94 := NB768_774.out; obtain ⟨hcz95_0, hcz95_1, hcz95_2, hcz95_3, hfz95_0, hfz95_1, hfz95_2, hfz95_3⟩ := zq4 BK774; obtain ⟨hcz96_0, hcz96_1, hcz96_2, hfz96_0, hfz96_1, hfz96_2⟩ := zq3 BK768; obtain ⟨hcz97_0, hcz97_1, hcz97_2, hfz97_0, hfz97_1, hfz97_2⟩ := zq3 BK753; have p776 : 0 ≤ ((ji85) : Int) := of_decide_eq_true (by first | (with_reducible assumption) | assumption); have q776 : (ji85) < (t764.length : Int) := of_decide_eq_true (by first | (with_reducible assumption) | assumption); obtain ⟨ad776, e776, hx776_0, hx776_1, hx776_2, hx776_3⟩ := at_T48 (Kd.R_reads' HO_769002.out).2.2 (ji85) p776 q776; cases e776; have hn776_0 : ad776.block ≠ gb774 := Kd.own_blk (fun e_ => (HO_769002.out.1 _ e_.symm).2 rfl); have hn776_1 : ad776.block ≠ gb774 := Kd.own_blk (fun e_ => (HO_769002.out.1 _ e_.symm).2 rfl); have hn776_2 : ad776.block ≠ gb774 := Kd.own_blk (fun e_ => (HO_769002.out.1 _ e_.symm).2 rfl); have hn776_3 : ad776.block ≠ gb774 := Kd.own_blk (fun e_ => (HO_769002.out.1 _ e_.symm).2 rfl); replace hx776_0 := (cell_far (p := ⟨gb774, 0, none⟩) (by first | (rw [add_block]; exact hn776_0) | (show (Addr.add _ _).block ≠ _; rw [add_block]; exact hn776_0) | exact hn776_0) (.int .i64 t770)).trans hx776_0; replace hx776_1 := (cell_far (p := ⟨gb774, 0, none⟩) (by first | (rw [add_block]; exact hn776_0) | (show (Addr.add _ _).block ≠ _; rw [add_block]; exact hn776_0) | exact hn776_0) (.int .i64 t770)).trans hx776_1; replace hx776_2 := (cell_far (p := ⟨gb774, 0, none⟩) (by first | (rw [add_block]; exact hn776_0) | (show (Addr.add _ _).block ≠ _; rw [add_block]; exact hn776_0) | exact hn776_0) (.int .i64 t770)).trans hx776_2; replace hx776_3 := (cell_far (p := ⟨gb774, 0, none⟩) (by first | (rw [add_block]; exact hn776_0) | (show (Addr.add _ _).block ≠ _; rw [add_block]; exact hn776_0) | exact hn776_0) (.int .i64 t770)).trans hx776_3; replace hx776_0 := (cell_far (p := ⟨gb774, 1, none⟩) (by first | (rw [add_block]; exact hn776_1) | (show (Addr.add _ _).block ≠ _; rw [add_block]; exact hn776_1) | exact hn776_1) (.int .i64 t771)).trans hx776_0; replace hx776_1 := (cell_far (p := ⟨gb774, 1, none⟩) (by first | (rw [add_block]; exact hn776_1) | (show (Addr.add _ _).block ≠ _; rw [add_block]; exact hn776_1) | exact hn776_1) (.int .i64 t771)).trans hx776_1; replace hx776_2 := (cell_far (p := ⟨gb774, 1, none⟩) (by first | (rw [add_block]; exact hn776_1) | (show (Addr.add _ _).block ≠ _; rw [add_block]; exact hn776_1) | exact hn776_1) (.int .i64 t771)).trans hx776_2; replace hx776_3 := (cell_far (p := ⟨gb774, 1, none⟩) (by first | (rw [add_block]; exact hn776_1) | (show (Addr.add _ _).block ≠ _; rw [add_block]; exact hn776_1) | exact hn776_1) (.int .i64 t771)).trans hx776_3; replace hx776_0 := (cell_far (p := ⟨gb774, 2, none⟩) (by first | (rw [add_block]; exact hn776_2) | (show (Addr.add _ _).block ≠ _; rw [add_block]; exact hn776_2) | exact hn776_2) (.int .i64 t772)).trans hx776_0; replace hx776_1 := (cell_far (p := ⟨gb774, 2, none⟩) (by first | (rw [add_block]; exact hn776_2) | (show (Addr.add _ _).block ≠ _; rw [add_block]; exact hn776_2) | exact hn776_2) (.int .i64 t772)).trans hx776_1; replace hx776_2 := (cell_far (p := ⟨gb774, 2, none⟩) (by first | (rw [add_block]; exact hn776_2) | (show (Addr.add _ _).block ≠ _; rw [add_block]; exact hn776_2) | exact hn776_2) (.int .i64 t772)).trans hx776_2; replace hx776_3 := (cell_far (p := ⟨gb774, 2, none⟩) (by first | (rw [add_block]; exact hn776_2) | (show (Addr.add _ _).block ≠ _; rw [add_block]; exact hn776_2) | exact hn776_2) (.int .i64 t772)).trans hx776_3; replace hx776_0 := (cell_far (p := ⟨gb774, 3, none⟩) (by first | (rw [add_block]; exact hn776_3) | (show (Addr.add _ _).block ≠ _; rw [add_block]; exact hn776_3) | exact hn776_3) (.int .i64 t773)).trans hx776_0; replace hx776_1 := (cell_far (p := ⟨gb774, 3, none⟩) (by first | (rw [add_block]; exact hn776_3) | (show (Addr.add _ _).block ≠ _; rw [add_block]; exact hn776_3) | exact hn776_3) (.int .i64 t773)).trans hx776_1; replace hx776_2 := (cell_far (p := ⟨gb774, 3, none⟩) (by first | (rw [add_block]; exact hn776_3) | (show (Addr.add _ _).block ≠ _; rw [add_block]; exact hn776_3) | exact hn776_3) (.int .i64 t773)).trans hx776_2; replace hx776_3 := (cell_far (p := ⟨gb774, 3, none⟩) (by first | (rw [add_block]; exact hn776_3) | (show (Addr.add _ _).block ≠ _; rw [add_block]; exact hn776_3) | exact hn776_3) (.int .i64 t773)).trans hx776_3; (try have hy776_0 := fun (n_ : Nat) => (show ((((((w92.drewN n_).setCell ⟨gb774, 0, none⟩ (.int .i64 t770)).setCell ⟨gb774, 1, none⟩ (.int .i64 t771)).setCell ⟨gb774, 2, none⟩ (.int .i64 t772)).setCell ⟨gb774, 3, none⟩ (.int .i64 t773))).cell? _ = some _ from hx776_0)); (try have hy776_1 := fun (n_ : Nat) => (show ((((((w92.drewN n_).setCell ⟨gb774, 0, none⟩ (.int .i64 t770)).setCell ⟨gb774, 1, none⟩ (.int .i64 t771)).setCell ⟨gb774, 2, none⟩ (.int .i64 t772)).setCell ⟨gb774, 3, none⟩ (.int .i64 t773))).cell? _ = some _ from hx776_1)); (try have hy776_2 := fun (n_ : Nat) => (show ((((((w92.drewN n_).setCell ⟨gb774, 0, none⟩ (.int .i64 t770)).setCell ⟨gb774, 1, none⟩ (.int .i64 t771)).setCell ⟨gb774, 2, none⟩ (.int .i64 t772)).setCell ⟨gb774, 3, none⟩ (.int .i64 t773))).cell? _ = some _ from hx776_2)); (try have hy776_3 := fun (n_ : Nat) => (show ((((((w92.drewN n_).setCell ⟨gb774, 0, none⟩ (.int .i64 t770)).setCell ⟨gb774, 1, none⟩ (.int .i64 t771)).setCell ⟨gb774, 2, none⟩ (.int .i64 t772)).setCell ⟨gb774, 3, none⟩ (.int .i64 t773))).cell? _ = some _ from hx776_3)); clear hn776_0; clear hn776_1; clear hn776_2; clear hn776_3; replace p776 := eq_true p776; replace q776 := eq_true q776)))
                  first | go_roundg k4 | ((try subst hji85); go_roundg k4)
                  case measure => have := HJ4.out; have := HJ33.out; have := HK3.out; have := HK4.out; omega
                  case rel => first | (exact ⟨(wrap64 (x109_4 + 1)), (by first | rfl | (simp; done) | (simp [*]; done)), H', ⟨by have := HJ4.out; have := HJ33.out; have := HK3.out; have := HK4.out; omega⟩, ⟨by (with_reducible repeat (first | apply Kd.R_alloc | apply Kd.R_drewN | apply Kd.R_drew)); exact Kd.R_mono (Kd.R_far (p := ⟨gb774, 3, none⟩) (Kd.R_far (p := ⟨gb774, 2, none⟩) (Kd.R_far (p := ⟨gb774, 1, none⟩) (Kd.R_far (p := ⟨gb774, 0, none⟩) (Kd.R_mono HO_769002.out (fun k_ hk => (⟨hk, hk.2⟩ : _ ∧ k_ ≠ gb774))) (fun _ hk => hk.2) (.int .i64 t770)) (fun _ hk => hk.2) (.int .i64 t771)) (fun _ hk => hk.2) (.int .i64 t772)) (fun _ hk => hk.2) (.int .i64 t773)) (fun _ hk => trivial)⟩, ⟨by exact zf BK753 NB753_774⟩, ⟨by exact zf BK768 NB768_774⟩, ⟨by exact zbo HB GE774⟩⟩) | (exact ⟨(wrap64 (x109_4 + 1)), (by first | rfl | (simp; done) | (simp [*]; done)), H', ⟨by have := HJ4.out; have := HJ33.out; have := HK3.out; have := HK4.out; omega⟩, ⟨by (with_reducible repeat (first | apply Kd.R_alloc | apply Kd.R_drewN | apply Kd.R_drew)); exact Kd.R_mono (Kd.R_far (p := ⟨gb774, 3, none⟩) (Kd.R_far (p := ⟨gb774, 2, none⟩) (Kd.R_far (p := ⟨gb774, 1, none⟩) (Kd.R_far (p := ⟨gb774, 0, none⟩) (Kd.R_mono HO_769002.out (fun k_ hk => (⟨hk, hk.2⟩ : _ ∧ k_ ≠ gb774))) (fun _ hk => hk.2) (.int .i64 t770)) (fun _ hk => hk.2) (.int .i64 t771)) (fun _ hk => hk.2) (.int .i64 t772)) (fun _ hk => hk.2) (.int .i64 t773)) (fun _ hk => trivial)⟩, ⟨by exact zf BK753 NB753_774⟩, ⟨by exact zf BK768 NB768_774⟩, ⟨by exact zbo HB GE774⟩⟩)
               ·rw [if_neg c87] at H
                exact absurd H (by simp)
              ·rw [if_neg c86] at H
               exact absurd H (by simp)
            ·rw [if_neg c69] at H
             have c69b0 : decide (x109_4 < a0_0) = false := decide_eq_false c69
             clear c69
             as_aux_lemma =>
              have H' := Aside0.mk H
              clear H
              go_wp2
              repeat (go_quiet (fail); try go_wp2)
              go_roundg k4
              case measure => have := HJ4.out; have := HJ33.out; have := HK3.out; have := HK4.out; omega
              case rel => exact ⟨(wrap64 (x104_3 + 1)), (by first | rfl | (simp; done) | (simp [*]; done)), H', ⟨by have := HJ4.out; have := HJ33.out; have := HK3.out; have := HK4.out; omega⟩, ⟨by exact zr0 HO_769002⟩, ⟨by exact zk0 BK753⟩, ⟨by exact zk0 BK768⟩, ⟨by exact zb0 HB⟩⟩
         ·rw [if_neg c67] at H
          have c67b0 : decide (x104_3 < a0_1) = false := decide_eq_false c67
          clear c67
          replace H := Option.bind_eq_some_iff.mp H
          obtain ⟨t769, A980, H⟩ := H
          replace H : (some t769) = some r := H
          have A98 := Aside0.mk A980
          clear A980
          as_aux_lemma =>
           obtain rfl := Option.some.inj H
           (try clear HO_769002)
           (try clear BK753)
           (try clear BK768)
           go_wp2_with (first | (go_at_call 16; (with_reducible refine (imageeditorlaw15_awake.calls k3  t769 _ A98.out).mono ?_); rintro e w99 ⟨rfl, hb⟩; replace HB := zb HB hb; (try clear hb); (try clear hb2); (try clear hk); (try clear hi)))
           repeat (go_quiet (first | (go_at_call 16; (with_reducible refine (imageeditorlaw15_awake.calls k3  t769 _ A98.out).mono ?_); rintro e w99 ⟨rfl, hb⟩; replace HB := zb HB hb; (try clear hb); (try clear hb2); (try clear hk); (try clear hi))); try go_wp2_with (first | (go_at_call 16; (with_reducible refine (imageeditorlaw15_awake.calls k3  t769 _ A98.out).mono ?_); rintro e w99 ⟨rfl, hb⟩; replace HB := zb HB hb; (try clear hb); (try clear hb2); (try clear hk); (try clear hi))))
           go_ret
           exact ⟨by first | rfl | (simp [errW_none, errW_some] <;> rfl) | (simp [*, errW_none, errW_some] <;> rfl), by exact zb0 HB⟩

end Go.Proofs.Ytnfbabmceddciaa.G
