/- Contracts of functions of the program, each as it is called: what it computes (.f), that it computes no less with more rounds (.mono), and that a call returns just that (.calls). No conditions but those that each contract names. Written by a program of this session (wip/gx.py over the kit's print). -/
import Derived.Test.YtmmncannibnklaaG0
import Derived.Test.YtmmncannibnklaaG1
namespace Go.Proofs.Ytmmncannibnklaa.G
open Go.RowKit Go.Proofs.YtmmncannibnklaaW.PrintWords Go.Proofs.YtmmncannibnklaaW.PrintLast Go.Proofs.YtmmncannibnklaaW.PrintMore
attribute [local go_sem] max2_int min2_int max_two min_two max_three min_three max_four min_four   -- for this text's walks alone
set_option linter.unusedVariables false
set_option linter.unusedSimpArgs false


/-! ### wand_Flood_1: function 24 -/
def wand_Flood_1.j0 : Nat → Bool → Int → Int → List (S37) → Int → Int → List Int → Int → Int → Int → Int → Int → List (S26) → Int → Int → Option (List Int × (List (S26)))
 | 0, _, _, _, _, _, _, _, _, _, _, _, _, _, _, _ => none
 | k + 1, x29, x133000, x133001, x133002, x134000, x134001, x134002, x135000, x135001, x135002, x135003, x136000, x137000, x141000, x141001 => if x29 = true then (some (x134002, x137000)) else (if 0 ≤ (wrap64 ((wrap64 (x141001 * x133000)) + x141000)) then (if (wrap64 ((wrap64 (x141001 * x133000)) + x141000)) < (x134002.length : Int) then (if (rd x134002 (wrap64 ((wrap64 (x141001 * x133000)) + x141000))) = 0 then (if (wrap64 ((wrap64 (x141001 * x133000)) + x141000)) < (x133002.length : Int) then ((pixel_Dist.f ((rd_T37 x133002 (wrap64 ((wrap64 (x141001 * x133000)) + x141000))).f0) ((rd_T37 x133002 (wrap64 ((wrap64 (x141001 * x133000)) + x141000))).f1) ((rd_T37 x133002 (wrap64 ((wrap64 (x141001 * x133000)) + x141000))).f2) ((rd_T37 x133002 (wrap64 ((wrap64 (x141001 * x133000)) + x141000))).f3) x135000 x135001 x135002 x135003).bind fun t143 => (if t143 ≤ x136000 then (if x137000.length < 8796093022208 then (some ((x134002.set ((wrap64 ((wrap64 (x141001 * x133000)) + x141000)) : Int).toNat 65535), (x137000 ++ [(⟨x141000, x141001⟩ : S26)]))) else (none)) else (some (x134002, x137000)))) else (none)) else (some (x134002, x137000))) else (none)) else (none))
def wand_Flood_1.f (k : Nat) (a0_0 : Int) (a0_1 : Int) (a1_0 : Int) (a1_1 : Int) (l1_2 : List (S37)) (a2_0 : Int) (a2_1 : Int) (l2_2 : List Int) (a3_0 : Int) (a3_1 : Int) (a3_2 : Int) (a3_3 : Int) (a4_0 : Int) (l5_0 : List (S26))    : Option (List Int × (List (S26))) := if a0_0 < 0 then (wand_Flood_1.j0 k true a1_0 a1_1 l1_2 a2_0 a2_1 l2_2 a3_0 a3_1 a3_2 a3_3 a4_0 l5_0 a0_0 a0_1) else (if a0_0 ≥ a1_0 then (wand_Flood_1.j0 k true a1_0 a1_1 l1_2 a2_0 a2_1 l2_2 a3_0 a3_1 a3_2 a3_3 a4_0 l5_0 a0_0 a0_1) else (if a0_1 < 0 then (wand_Flood_1.j0 k true a1_0 a1_1 l1_2 a2_0 a2_1 l2_2 a3_0 a3_1 a3_2 a3_3 a4_0 l5_0 a0_0 a0_1) else (wand_Flood_1.j0 k (decide (a0_1 ≥ a1_1)) a1_0 a1_1 l1_2 a2_0 a2_1 l2_2 a3_0 a3_1 a3_2 a3_3 a4_0 l5_0 a0_0 a0_1)))
theorem wand_Flood_1.mono_l : ∀ k, (∀ y0 y1 y2 y3 y4 y5 y6 y7 y8 y9 y10 y11 y12 y13 y14, LeO (wand_Flood_1.j0 k y0 y1 y2 y3 y4 y5 y6 y7 y8 y9 y10 y11 y12 y13 y14) (wand_Flood_1.j0 (k + 1) y0 y1 y2 y3 y4 y5 y6 y7 y8 y9 y10 y11 y12 y13 y14))
 | 0 => fun _ _ _ _ _ _ _ _ _ _ _ _ _ _ _ r h => by simp [wand_Flood_1.j0] at h
 | k + 1 => by
  have ih0 := wand_Flood_1.mono_l k
  ·intro y0 y1 y2 y3 y4 y5 y6 y7 y8 y9 y10 y11 y12 y13 y14
   unfold wand_Flood_1.j0
   repeat' first
   | (with_reducible exact ih0 _ _ _ _ _ _ _ _ _ _ _ _ _ _ _)
   | (with_reducible exact LeO.refl _)
   | (with_reducible exact LeO.none _)
   | (with_reducible refine LeO.ite ?_ ?_)
   | (with_reducible refine LeO.bind ?_ (fun _ => ?_))
   | exact ih0 _ _ _ _ _ _ _ _ _ _ _ _ _ _ _
   | exact LeO.none _
   | refine LeO.ite ?_ ?_
   | refine LeO.bind ?_ (fun _ => ?_)
theorem wand_Flood_1.mono : ∀ a0 a1 a2 a3 a4 a5 a6 a7 a8 a9 a10 a11 a12 a13 k, LeO (wand_Flood_1.f k a0 a1 a2 a3 a4 a5 a6 a7 a8 a9 a10 a11 a12 a13) (wand_Flood_1.f (k + 1) a0 a1 a2 a3 a4 a5 a6 a7 a8 a9 a10 a11 a12 a13) := by
 intro a0 a1 a2 a3 a4 a5 a6 a7 a8 a9 a10 a11 a12 a13 k
 have ih0 := wand_Flood_1.mono_l k
 unfold wand_Flood_1.f
 repeat' first
   | (with_reducible exact ih0 _ _ _ _ _ _ _ _ _ _ _ _ _ _ _)
   | (with_reducible exact LeO.refl _)
   | (with_reducible exact LeO.none _)
   | (with_reducible refine LeO.ite ?_ ?_)
   | (with_reducible refine LeO.bind ?_ (fun _ => ?_))
   | exact ih0 _ _ _ _ _ _ _ _ _ _ _ _ _ _ _
   | exact LeO.none _
   | refine LeO.ite ?_ ?_
   | refine LeO.bind ?_ (fun _ => ?_)
def wand_Flood_1.T3 : Bool × List (List Nat × List Nat) := (true, [([], []), ([0], [0]), ([], []), ([1, 2], [1, 2]), ([3], [3]), ([4], [4]), ([5], [5]), ([6], [6]), ([7, 6], [6, 7]), ([6], [6]), ([8, 9, 6], [6, 8, 9]), ([10, 6], [6, 10]), ([6], [6]), ([11, 12, 6, 6], [6, 11, 12]), ([6], [6]), ([13, 14, 6], [6, 13, 14]), ([6, 15], [6, 15])])
def wand_Flood_1.B3 : List Nat := [0, 1, 0, 7, 15, 31, 63, 127, 255, 127, 1023, 2047, 127, 8191, 127, 32767, 65535]
theorem wand_Flood_1.tab3 : rtab .any (opsOf Try.f24 3) = wand_Flood_1.T3 := by kernel_rfl
theorem wand_Flood_1.bits3 : waitsOk wand_Flood_1.T3.2 wand_Flood_1.B3 = true := by kernel_rfl
set_option maxHeartbeats 8000000 in
set_option maxRecDepth 100000 in
theorem wand_Flood_1.calls (k : Nat) (a0_0 : Int) (a0_1 : Int) (gc1_0 : Nat) (a1_0 : Int) (a1_1 : Int) (A1_2 : Option Addr) (c1_2 : Nat) (l1_2 : List (S37)) (gc2_0 : Nat) (a2_0 : Int) (a2_1 : Int) (u9100_ : Value) (l2_2 : List Int) (gc3_0 : Nat) (a3_0 : Int) (a3_1 : Int) (a3_2 : Int) (a3_3 : Int) (gc4_0 : Nat) (a4_0 : Int) (gc5_0 : Nat) (u9101_ : Value) (l5_0 : List (S26)) (gc6_0 : Nat) (qs6_0 : Array Value) (gc7_0 : Nat) (qs7_0 : Array Value) (gc8_0 : Nat) (qs8_0 : Array Value) (r1 : List Int) (r2 : List (S26)) (w w1 : World) (hB : Below w.heap.size w w1) (hp1_0 : w1.heap[gc1_0]? = some (.cells #[.int .i64 a1_0, .int .i64 a1_1, .slice A1_2 l1_2.length c1_2] 24 (0, 0))) (hr1_2 : Kd.C k37 w A1_2 l1_2.length l1_2) (hc1_2 : l1_2.length ≤ c1_2) (hp2_0 : w1.heap[gc2_0]? = some (.cells #[.int .i64 a2_0, .int .i64 a2_1, u9100_] 29 (0, 0))) (ho2_2 : Kd.R (Kd.int .i64) 3 w1 w.heap.size (fun k_ => k_ ≠ gc4_0) u9100_ l2_2) (hp3_0 : w1.heap[gc3_0]? = some (.cells #[.int .i64 a3_0, .int .i64 a3_1, .int .i64 a3_2, .int .i64 a3_3] 37 (0, 0))) (hp4_0 : w1.heap[gc4_0]? = some (.cells #[.int .i64 a4_0] 3 (0, 0))) (hp5_0 : w1.heap[gc5_0]? = some (.cells #[u9101_] 48 (0, 0))) (ho5_0 : Kd.R k26 26 w1 w.heap.size (fun k_ => k_ ≠ gc6_0 ∧ k_ ≠ gc8_0) u9101_ l5_0) (hp6_0 : w1.heap[gc6_0]? = some (.cells qs6_0 26 (0, 0))) (hp7_0 : w1.heap[gc7_0]? = some (.cells qs7_0 29 (0, 0))) (hp8_0 : w1.heap[gc8_0]? = some (.cells qs8_0 26 (0, 0))) (hg1_0 : w.heap.size ≤ gc1_0) (hg2_0 : w.heap.size ≤ gc2_0) (hg3_0 : w.heap.size ≤ gc3_0) (hg4_0 : w.heap.size ≤ gc4_0) (hg5_0 : w.heap.size ≤ gc5_0) (hg6_0 : w.heap.size ≤ gc6_0) (hg7_0 : w.heap.size ≤ gc7_0) (hg8_0 : w.heap.size ≤ gc8_0) (hn1_0 : gc2_0 ≠ gc1_0) (hn2_0 : gc3_0 ≠ gc1_0) (hn2_1 : gc3_0 ≠ gc2_0) (hn3_0 : gc4_0 ≠ gc1_0) (hn3_1 : gc4_0 ≠ gc2_0) (hn3_2 : gc4_0 ≠ gc3_0) (hn4_0 : gc5_0 ≠ gc1_0) (hn4_1 : gc5_0 ≠ gc2_0) (hn4_2 : gc5_0 ≠ gc3_0) (hn4_3 : gc5_0 ≠ gc4_0) (hn5_0 : gc6_0 ≠ gc1_0) (hn5_1 : gc6_0 ≠ gc2_0) (hn5_2 : gc6_0 ≠ gc3_0) (hn5_3 : gc6_0 ≠ gc4_0) (hn5_4 : gc6_0 ≠ gc5_0) (hn6_0 : gc7_0 ≠ gc1_0) (hn6_1 : gc7_0 ≠ gc2_0) (hn6_2 : gc7_0 ≠ gc3_0) (hn6_3 : gc7_0 ≠ gc4_0) (hn6_4 : gc7_0 ≠ gc5_0) (hn7_0 : gc8_0 ≠ gc1_0) (hn7_1 : gc8_0 ≠ gc2_0) (hn7_2 : gc8_0 ≠ gc3_0) (hn7_3 : gc8_0 ≠ gc4_0) (hn7_4 : gc8_0 ≠ gc5_0) (h : wand_Flood_1.f k a0_0 a0_1 a1_0 a1_1 l1_2 a2_0 a2_1 l2_2 a3_0 a3_1 a3_2 a3_3 a4_0 l5_0 = some (r1, r2)) :
  Calls Try.prog 24 #[.agg #[.int .i64 a0_0, .int .i64 a0_1], .pointer (some ⟨gc1_0, 0, none⟩), .pointer (some ⟨gc2_0, 0, none⟩), .pointer (some ⟨gc3_0, 0, none⟩), .pointer (some ⟨gc4_0, 0, none⟩), .pointer (some ⟨gc5_0, 0, none⟩)] w1 fun e w' => ∃ v800_ v801_ : Value, e = .returned (.tuple #[]) ∧ w'.heap[gc1_0]? = some (.cells #[.int .i64 a1_0, .int .i64 a1_1, .slice A1_2 l1_2.length c1_2] 24 (0, 0)) ∧ w'.heap[gc2_0]? = some (.cells #[.int .i64 a2_0, .int .i64 a2_1, v800_] 29 (0, 0)) ∧ w'.heap[gc3_0]? = some (.cells #[.int .i64 a3_0, .int .i64 a3_1, .int .i64 a3_2, .int .i64 a3_3] 37 (0, 0)) ∧ w'.heap[gc4_0]? = some (.cells #[.int .i64 a4_0] 3 (0, 0)) ∧ w'.heap[gc5_0]? = some (.cells #[v801_] 48 (0, 0)) ∧ w'.heap[gc6_0]? = some (.cells qs6_0 26 (0, 0)) ∧ w'.heap[gc7_0]? = some (.cells qs7_0 29 (0, 0)) ∧ w'.heap[gc8_0]? = some (.cells qs8_0 26 (0, 0)) ∧ Kd.R (Kd.int .i64) 3 w' w.heap.size (fun k_ => k_ ≠ gc4_0) v800_ r1 ∧ Kd.R k26 26 w' w.heap.size (fun k_ => k_ ≠ gc6_0 ∧ k_ ≠ gc8_0) v801_ r2 ∧ Below w.heap.size w w' := by
 have hu26 := Try.underlying26
 have hu37 := Try.underlying37
 have HR1_2 := Aside0.mk hr1_2
 have HC1_2 := Aside0.mk hc1_2
 clear hr1_2 hc1_2
 have BK132 := Aside0.mk hp1_0
 have GW132 := Aside0.mk hg1_0
 have GE132 := Aside0.mk hg1_0
 clear hp1_0 hg1_0
 have BK133 := Aside0.mk hp2_0
 have GW133 := Aside0.mk hg2_0
 have GE133 := Aside0.mk hg2_0
 clear hp2_0 hg2_0
 have BK134 := Aside0.mk hp3_0
 have GW134 := Aside0.mk hg3_0
 have GE134 := Aside0.mk hg3_0
 clear hp3_0 hg3_0
 have BK135 := Aside0.mk hp4_0
 have GW135 := Aside0.mk hg4_0
 have GE135 := Aside0.mk hg4_0
 clear hp4_0 hg4_0
 have BK136 := Aside0.mk hp5_0
 have GW136 := Aside0.mk hg5_0
 have GE136 := Aside0.mk hg5_0
 clear hp5_0 hg5_0
 have BK137 := Aside0.mk hp6_0
 have GW137 := Aside0.mk hg6_0
 have GE137 := Aside0.mk hg6_0
 clear hp6_0 hg6_0
 have BK138 := Aside0.mk hp7_0
 have GW138 := Aside0.mk hg7_0
 have GE138 := Aside0.mk hg7_0
 clear hp7_0 hg7_0
 have BK139 := Aside0.mk hp8_0
 have GW139 := Aside0.mk hg8_0
 have GE139 := Aside0.mk hg8_0
 clear hp8_0 hg8_0
 have NB133_132 := Aside0.mk hn1_0
 have NB132_133 := Aside0.mk (Ne.symm hn1_0)
 clear hn1_0
 have NB134_132 := Aside0.mk hn2_0
 have NB132_134 := Aside0.mk (Ne.symm hn2_0)
 clear hn2_0
 have NB134_133 := Aside0.mk hn2_1
 have NB133_134 := Aside0.mk (Ne.symm hn2_1)
 clear hn2_1
 have NB135_132 := Aside0.mk hn3_0
 have NB132_135 := Aside0.mk (Ne.symm hn3_0)
 clear hn3_0
 have NB135_133 := Aside0.mk hn3_1
 have NB133_135 := Aside0.mk (Ne.symm hn3_1)
 clear hn3_1
 have NB135_134 := Aside0.mk hn3_2
 have NB134_135 := Aside0.mk (Ne.symm hn3_2)
 clear hn3_2
 have NB136_132 := Aside0.mk hn4_0
 have NB132_136 := Aside0.mk (Ne.symm hn4_0)
 clear hn4_0
 have NB136_133 := Aside0.mk hn4_1
 have NB133_136 := Aside0.mk (Ne.symm hn4_1)
 clear hn4_1
 have NB136_134 := Aside0.mk hn4_2
 have NB134_136 := Aside0.mk (Ne.symm hn4_2)
 clear hn4_2
 have NB136_135 := Aside0.mk hn4_3
 have NB135_136 := Aside0.mk (Ne.symm hn4_3)
 clear hn4_3
 have NB137_132 := Aside0.mk hn5_0
 have NB132_137 := Aside0.mk (Ne.symm hn5_0)
 clear hn5_0
 have NB137_133 := Aside0.mk hn5_1
 have NB133_137 := Aside0.mk (Ne.symm hn5_1)
 clear hn5_1
 have NB137_134 := Aside0.mk hn5_2
 have NB134_137 := Aside0.mk (Ne.symm hn5_2)
 clear hn5_2
 have NB137_135 := Aside0.mk hn5_3
 have NB135_137 := Aside0.mk (Ne.symm hn5_3)
 clear hn5_3
 have NB137_136 := Aside0.mk hn5_4
 have NB136_137 := Aside0.mk (Ne.symm hn5_4)
 clear hn5_4
 have NB138_132 := Aside0.mk hn6_0
 have NB132_138 := Aside0.mk (Ne.symm hn6_0)
 clear hn6_0
 have NB138_133 := Aside0.mk hn6_1
 have NB133_138 := Aside0.mk (Ne.symm hn6_1)
 clear hn6_1
 have NB138_134 := Aside0.mk hn6_2
 have NB134_138 := Aside0.mk (Ne.symm hn6_2)
 clear hn6_2
 have NB138_135 := Aside0.mk hn6_3
 have NB135_138 := Aside0.mk (Ne.symm hn6_3)
 clear hn6_3
 have NB138_136 := Aside0.mk hn6_4
 have NB136_138 := Aside0.mk (Ne.symm hn6_4)
 clear hn6_4
 have NB139_132 := Aside0.mk hn7_0
 have NB132_139 := Aside0.mk (Ne.symm hn7_0)
 clear hn7_0
 have NB139_133 := Aside0.mk hn7_1
 have NB133_139 := Aside0.mk (Ne.symm hn7_1)
 clear hn7_1
 have NB139_134 := Aside0.mk hn7_2
 have NB134_139 := Aside0.mk (Ne.symm hn7_2)
 clear hn7_2
 have NB139_135 := Aside0.mk hn7_3
 have NB135_139 := Aside0.mk (Ne.symm hn7_3)
 clear hn7_3
 have NB139_136 := Aside0.mk hn7_4
 have NB136_139 := Aside0.mk (Ne.symm hn7_4)
 clear hn7_4
 have HO2_2 := Aside0.mk ho2_2
 clear ho2_2
 have HO5_0 := Aside0.mk ho5_0
 clear ho5_0
 have HB := Aside0.mk hB
 clear hB
 have H : (if a0_0 < 0 then (wand_Flood_1.j0 k true a1_0 a1_1 l1_2 a2_0 a2_1 l2_2 a3_0 a3_1 a3_2 a3_3 a4_0 l5_0 a0_0 a0_1) else (if a0_0 ≥ a1_0 then (wand_Flood_1.j0 k true a1_0 a1_1 l1_2 a2_0 a2_1 l2_2 a3_0 a3_1 a3_2 a3_3 a4_0 l5_0 a0_0 a0_1) else (if a0_1 < 0 then (wand_Flood_1.j0 k true a1_0 a1_1 l1_2 a2_0 a2_1 l2_2 a3_0 a3_1 a3_2 a3_3 a4_0 l5_0 a0_0 a0_1) else (wand_Flood_1.j0 k (decide (a0_1 ≥ a1_1)) a1_0 a1_1 l1_2 a2_0 a2_1 l2_2 a3_0 a3_1 a3_2 a3_3 a4_0 l5_0 a0_0 a0_1)))) = some (r1, r2) := h
 clear h
 have HC10 := Aside0.mk H
 clear H
 go_enter Try.func24, Try.ntmps24
 go_upto_region 1 with (first | ((with_reducible refine gate_dst (N := 6) rfl ?_); refine box_event ?hg (N := 6) ?hd (cs := #[.int .i64 a0_0, .int .i64 a0_1]) (t := 26) ?hr ?_; (case hd => rfl); (case hg => rfl); (case hr => first | (go_simp; done) | (go_simp; rfl)); intro gb140 hg w11 hbox hb; have GW140 := zg HB hg; have GE140 := zg HB hg; have NB132_140 := zn BK132 hg; have NB140_132 := zn' BK132 hg; have NB133_140 := zn BK133 hg; have NB140_133 := zn' BK133 hg; have NB134_140 := zn BK134 hg; have NB140_134 := zn' BK134 hg; have NB135_140 := zn BK135 hg; have NB140_135 := zn' BK135 hg; have NB136_140 := zn BK136 hg; have NB140_136 := zn' BK136 hg; have NB137_140 := zn BK137 hg; have NB140_137 := zn' BK137 hg; have NB138_140 := zn BK138 hg; have NB140_138 := zn' BK138 hg; have NB139_140 := zn BK139 hg; have NB140_139 := zn' BK139 hg; have n0_ := Aside0.mk (Kd.R_below (Kd.R_elderB (by exact zr0 HO5_0) gb140 (Nat.le_of_eq hg.symm)) hb); have n1_ := Aside0.mk (hbox); replace HO2_2 := zr HO2_2 hb; replace BK132 := zk BK132 hb; replace BK133 := zk BK133 hb; replace BK134 := zk BK134 hb; replace BK135 := zk BK135 hb; replace BK136 := zk BK136 hb; replace BK137 := zk BK137 hb; replace BK138 := zk BK138 hb; replace BK139 := zk BK139 hb; replace HB := zb HB hb; clear HO5_0; have HO5_0 := n0_; have BK140 := n1_; clear n0_ n1_; clear hb hbox hg))
 (try simp only [Act.put, sA, sB, sC])
 go_cut [29] (fun v29 wc => ∃ (kq : Nat) (x29_9 : Bool), v29 = .bool x29_9 ∧ Aside0 (wand_Flood_1.j0 kq x29_9 a1_0 a1_1 l1_2 a2_0 a2_1 l2_2 a3_0 a3_1 a3_2 a3_3 a4_0 l5_0 a0_0 a0_1 = some (r1, r2)) ∧ Aside0 (kq ≤ k) ∧ Aside0 (Kd.R (Kd.int .i64) 3 wc w.heap.size (fun k_ => k_ ≠ gc4_0) u9100_ l2_2) ∧ Aside0 (Kd.R k26 26 wc w.heap.size (fun k_ => k_ ≠ gc6_0 ∧ k_ ≠ gc8_0 ∧ k_ ≠ gb140) u9101_ l5_0) ∧ Aside0 (wc.heap[gc1_0]? = some (.cells #[.int .i64 a1_0, .int .i64 a1_1, (.slice A1_2 l1_2.length c1_2)] 24 (0, 0))) ∧ Aside0 (wc.heap[gc2_0]? = some (.cells #[.int .i64 a2_0, .int .i64 a2_1, u9100_] 29 (0, 0))) ∧ Aside0 (wc.heap[gc3_0]? = some (.cells #[.int .i64 a3_0, .int .i64 a3_1, .int .i64 a3_2, .int .i64 a3_3] 37 (0, 0))) ∧ Aside0 (wc.heap[gc4_0]? = some (.cells #[.int .i64 a4_0] 3 (0, 0))) ∧ Aside0 (wc.heap[gc5_0]? = some (.cells #[u9101_] 48 (0, 0))) ∧ Aside0 (wc.heap[gc6_0]? = some (.cells qs6_0 26 (0, 0))) ∧ Aside0 (wc.heap[gc7_0]? = some (.cells qs7_0 29 (0, 0))) ∧ Aside0 (wc.heap[gc8_0]? = some (.cells qs8_0 26 (0, 0))) ∧ Aside0 (wc.heap[gb140]? = some (.cells #[.int .i64 a0_0, .int .i64 a0_1] 26 (0, 0))) ∧ Aside0 (Below w.heap.size w wc))
 case first =>
  have H := HC10.out
  clear HC10
  by_cases c12 : a0_0 < 0
  ·rw [if_pos c12] at H
   have c12b0 : decide (a0_0 < 0) = true := decide_eq_true c12
   clear c12
   (first | rw [c12b0] | (simp only [i64_w, i32_w]; rw [c12b0]) | skip)
   have H' := Aside0.mk H
   clear H
   obtain ⟨hcz13_0, hcz13_1, hfz13_0, hfz13_1⟩ := zq2 BK140
   go_wp2
   go_meet
   case rel => exact ⟨_, (true), (by first | rfl | (simp; done) | (simp [*]; done)), H', ⟨by first | omega | exact Nat.le_refl _⟩, ⟨by exact zr0 HO2_2⟩, ⟨by (with_reducible repeat (first | apply Kd.R_alloc | apply Kd.R_drewN | apply Kd.R_drew)); exact Kd.R_mono HO5_0.out (fun _ hk => ⟨hk.1.1, ⟨hk.1.2, hk.2⟩⟩)⟩, ⟨by exact zk0 BK132⟩, ⟨by exact zk0 BK133⟩, ⟨by exact zk0 BK134⟩, ⟨by exact zk0 BK135⟩, ⟨by exact zk0 BK136⟩, ⟨by exact zk0 BK137⟩, ⟨by exact zk0 BK138⟩, ⟨by exact zk0 BK139⟩, ⟨by exact zk0 BK140⟩, ⟨by exact zb0 HB⟩⟩
  ·rw [if_neg c12] at H
   have c12b0 : decide (a0_0 < 0) = false := decide_eq_false c12
   clear c12
   (first | rw [c12b0] | (simp only [i64_w, i32_w]; rw [c12b0]) | skip)
   by_cases c14 : a0_0 ≥ a1_0
   ·rw [if_pos c14] at H
    have c14b0 : decide (a1_0 ≤ a0_0) = true := decide_eq_true c14
    clear c14
    have H' := Aside0.mk H
    clear H
    obtain ⟨hcz15_0, hcz15_1, hfz15_0, hfz15_1⟩ := zq2 BK140
    obtain ⟨hcz16_0, hcz16_1, hcz16_2, hfz16_0, hfz16_1, hfz16_2⟩ := zq3 BK132
    go_wp2
    go_meet
    case rel => exact ⟨_, (true), (by first | rfl | (simp; done) | (simp [*]; done)), H', ⟨by first | omega | exact Nat.le_refl _⟩, ⟨by exact zr0 HO2_2⟩, ⟨by (with_reducible repeat (first | apply Kd.R_alloc | apply Kd.R_drewN | apply Kd.R_drew)); exact Kd.R_mono HO5_0.out (fun _ hk => ⟨hk.1.1, ⟨hk.1.2, hk.2⟩⟩)⟩, ⟨by exact zk0 BK132⟩, ⟨by exact zk0 BK133⟩, ⟨by exact zk0 BK134⟩, ⟨by exact zk0 BK135⟩, ⟨by exact zk0 BK136⟩, ⟨by exact zk0 BK137⟩, ⟨by exact zk0 BK138⟩, ⟨by exact zk0 BK139⟩, ⟨by exact zk0 BK140⟩, ⟨by exact zb0 HB⟩⟩
   ·rw [if_neg c14] at H
    have c14b0 : decide (a1_0 ≤ a0_0) = false := decide_eq_false c14
    clear c14
    by_cases c17 : a0_1 < 0
    ·rw [if_pos c17] at H
     have c17b0 : decide (a0_1 < 0) = true := decide_eq_true c17
     clear c17
     have H' := Aside0.mk H
     clear H
     obtain ⟨hcz18_0, hcz18_1, hfz18_0, hfz18_1⟩ := zq2 BK140
     obtain ⟨hcz19_0, hcz19_1, hcz19_2, hfz19_0, hfz19_1, hfz19_2⟩ := zq3 BK132
     go_wp2
     go_meet
     case rel => exact ⟨_, (true), (by first | rfl | (simp; done) | (simp [*]; done)), H', ⟨by first | omega | exact Nat.le_refl _⟩, ⟨by exact zr0 HO2_2⟩, ⟨by (with_reducible repeat (first | apply Kd.R_alloc | apply Kd.R_drewN | apply Kd.R_drew)); exact Kd.R_mono HO5_0.out (fun _ hk => ⟨hk.1.1, ⟨hk.1.2, hk.2⟩⟩)⟩, ⟨by exact zk0 BK132⟩, ⟨by exact zk0 BK133⟩, ⟨by exact zk0 BK134⟩, ⟨by exact zk0 BK135⟩, ⟨by exact zk0 BK136⟩, ⟨by exact zk0 BK137⟩, ⟨by exact zk0 BK138⟩, ⟨by exact zk0 BK139⟩, ⟨by exact zk0 BK140⟩, ⟨by exact zb0 HB⟩⟩
    ·rw [if_neg c17] at H
     have c17b0 : decide (a0_1 < 0) = false := decide_eq_false c17
     clear c17
     have H' := Aside0.mk H
     clear H
     obtain ⟨hcz20_0, hcz20_1, hfz20_0, hfz20_1⟩ := zq2 BK140
     obtain ⟨hcz21_0, hcz21_1, hcz21_2, hfz21_0, hfz21_1, hfz21_2⟩ := zq3 BK132
     go_wp2
     go_meet
     case rel => exact ⟨_, (decide (a0_1 ≥ a1_1)), (by first | rfl | (simp; done) | (simp [*]; done)), H', ⟨by first | omega | exact Nat.le_refl _⟩, ⟨by exact zr0 HO2_2⟩, ⟨by (with_reducible repeat (first | apply Kd.R_alloc | apply Kd.R_drewN | apply Kd.R_drew)); exact Kd.R_mono HO5_0.out (fun _ hk => ⟨hk.1.1, ⟨hk.1.2, hk.2⟩⟩)⟩, ⟨by exact zk0 BK132⟩, ⟨by exact zk0 BK133⟩, ⟨by exact zk0 BK134⟩, ⟨by exact zk0 BK135⟩, ⟨by exact zk0 BK136⟩, ⟨by exact zk0 BK137⟩, ⟨by exact zk0 BK138⟩, ⟨by exact zk0 BK139⟩, ⟨by exact zk0 BK140⟩, ⟨by exact zb0 HB⟩⟩
 case rest =>
  clear HC10
  try clear c1
  try clear p1
  try clear c2
  try clear p2
  try clear q2
  try clear c3
  try clear p3
  try clear q3
  try clear c4
  try clear p4
  try clear c5
  try clear p5
  try clear c6
  try clear p6
  try clear c7
  try clear p7
  try clear c8
  try clear p8
  try clear c12
  try clear c12b0
  try clear c14
  try clear c14b0
  try clear c17
  try clear c17b0
  try clear hcz13_0
  try clear hcz13_1
  try clear hcz15_0
  try clear hcz15_1
  try clear hcz16_0
  try clear hcz16_1
  try clear hcz16_2
  try clear hcz18_0
  try clear hcz18_1
  try clear hcz19_0
  try clear hcz19_1
  try clear hcz19_2
  try clear hcz20_0
  try clear hcz20_1
  try clear hcz21_0
  try clear hcz21_1
  try clear hcz21_2
  try clear hfz13_0
  try clear hfz13_1
  try clear hfz15_0
  try clear hfz15_1
  try clear hfz16_0
  try clear hfz16_1
  try clear hfz16_2
  try clear hfz18_0
  try clear hfz18_1
  try clear hfz19_0
  try clear hfz19_1
  try clear hfz19_2
  try clear hfz20_0
  try clear hfz20_1
  try clear hfz21_0
  try clear hfz21_1
  try clear hfz21_2
  obtain ⟨kq, x29_9, rfl, HA, HJ9, HO_134002, HO_137000, BK132, BK133, BK134, BK135, BK136, BK137, BK138, BK139, BK140, HB⟩ := hcut
  cases kq with
  | zero => exact absurd HA.out (by simp [wand_Flood_1.j0])
  | succ kj9 =>
   have H := HA.out
   clear HA
   simp only [wand_Flood_1.j0] at H
   by_cases c22 : x29_9 = true
   ·subst c22
    have H1 : (some (l2_2, l5_0)) = some (r1, r2) := by rw [if_pos rfl] at H; exact H
    clear H
    have H := H1
    clear H1
    simp only [Option.some.injEq, Prod.mk.injEq] at H
    obtain ⟨rfl, rfl⟩ := H
    go_wp2
    first | go_end0 | ((try simp only [Exit.inBlock, Exit.then]); refine bodyPost_ret (results_none rfl _ _ _) rfl ?_)
    exact ⟨u9100_, u9101_, by first | rfl | (simp [*] <;> rfl), (by exact zk0 BK132), (by exact zk0 BK133), (by exact zk0 BK134), (by exact zk0 BK135), (by exact zk0 BK136), (by exact zk0 BK137), (by exact zk0 BK138), (by exact zk0 BK139), (by exact zr0 HO_134002), (by (with_reducible repeat (first | apply Kd.R_alloc | apply Kd.R_drewN | apply Kd.R_drew)); exact Kd.R_mono HO_137000.out (fun _ hk => ⟨hk.1, hk.2.1⟩)), by exact zb0 HB⟩
   ·replace c22 := Bool.eq_false_iff.mpr c22
    subst c22
    have H1 : (if 0 ≤ (wrap64 ((wrap64 (a0_1 * a1_0)) + a0_0)) then (if (wrap64 ((wrap64 (a0_1 * a1_0)) + a0_0)) < (l2_2.length : Int) then (if (rd l2_2 (wrap64 ((wrap64 (a0_1 * a1_0)) + a0_0))) = 0 then (if (wrap64 ((wrap64 (a0_1 * a1_0)) + a0_0)) < (l1_2.length : Int) then ((pixel_Dist.f ((rd_T37 l1_2 (wrap64 ((wrap64 (a0_1 * a1_0)) + a0_0))).f0) ((rd_T37 l1_2 (wrap64 ((wrap64 (a0_1 * a1_0)) + a0_0))).f1) ((rd_T37 l1_2 (wrap64 ((wrap64 (a0_1 * a1_0)) + a0_0))).f2) ((rd_T37 l1_2 (wrap64 ((wrap64 (a0_1 * a1_0)) + a0_0))).f3) a3_0 a3_1 a3_2 a3_3).bind fun t143 => (if t143 ≤ a4_0 then (if l5_0.length < 8796093022208 then (some ((l2_2.set ((wrap64 ((wrap64 (a0_1 * a1_0)) + a0_0)) : Int).toNat 65535), (l5_0 ++ [(⟨a0_0, a0_1⟩ : S26)]))) else (none)) else (some (l2_2, l5_0)))) else (none)) else (some (l2_2, l5_0))) else (none)) else (none)) = some (r1, r2) := by rw [if_neg (show ¬ (false = true) by decide)] at H; exact H
    clear H
    have H := H1
    clear H1
    obtain ⟨ji23, hji23⟩ : ∃ j_ : Int, (wrap64 ((wrap64 (a0_1 * a1_0)) + a0_0)) = j_ := ⟨_, rfl⟩
    replace H : (if 0 ≤ (ji23) then (if (ji23) < (l2_2.length : Int) then (if (rd l2_2 (ji23)) = 0 then (if (ji23) < (l1_2.length : Int) then ((pixel_Dist.f ((rd_T37 l1_2 (ji23)).f0) ((rd_T37 l1_2 (ji23)).f1) ((rd_T37 l1_2 (ji23)).f2) ((rd_T37 l1_2 (ji23)).f3) a3_0 a3_1 a3_2 a3_3).bind fun t143 => (if t143 ≤ a4_0 then (if l5_0.length < 8796093022208 then (some ((l2_2.set ((ji23) : Int).toNat 65535), (l5_0 ++ [(⟨a0_0, a0_1⟩ : S26)]))) else (none)) else (some (l2_2, l5_0)))) else (none)) else (some (l2_2, l5_0))) else (none)) else (none)) = some (r1, r2) := by first | (rw [hji23] at H; exact H) | (simp only [hji23] at H ⊢; exact H)
    have hji23w : (IntKind.i64.wrap ((wrap64 (a0_1 * a1_0)) + a0_0)) = ji23 := (i64_w _).trans hji23
    by_cases c24 : 0 ≤ (ji23)
    ·rw [if_pos c24] at H
     have c24b0 : decide (0 ≤ (ji23)) = true := decide_eq_true c24
     clear c24
     by_cases c25 : (ji23) < (l2_2.length : Int)
     ·rw [if_pos c25] at H
      have c25b0 : decide ((ji23) < (l2_2.length : Int)) = true := decide_eq_true c25
      clear c25
      by_cases c26 : (rd l2_2 (ji23)) = 0
      ·rw [if_pos c26] at H
       have c26b0 : ((rd l2_2 (ji23)) == 0) = true := beq_iff_eq.mpr c26
       have c26b1 : ((rd l2_2 (ji23)) != 0) = false := bne_eq_false_iff_eq.mpr c26
       clear c26
       by_cases c27 : (ji23) < (l1_2.length : Int)
       ·rw [if_pos c27] at H
        have c27b0 : decide ((ji23) < (l1_2.length : Int)) = true := decide_eq_true c27
        clear c27
        replace H := Option.bind_eq_some_iff.mp H
        obtain ⟨t143, A280, H⟩ := H
        replace H : (if t143 ≤ a4_0 then (if l5_0.length < 8796093022208 then (some ((l2_2.set ((ji23) : Int).toNat 65535), (l5_0 ++ [(⟨a0_0, a0_1⟩ : S26)]))) else (none)) else (some (l2_2, l5_0))) = some (r1, r2) := H
        have A28 := Aside0.mk A280
        clear A280
        by_cases c29 : t143 ≤ a4_0
        ·rw [if_pos c29] at H
         have c29b0 : decide (t143 ≤ a4_0) = true := decide_eq_true c29
         clear c29
         obtain ⟨y144, hy144⟩ : ∃ y_ : List Int, y_ = (l2_2.set ((ji23) : Int).toNat 65535) := ⟨_, rfl⟩
         replace H : (if l5_0.length < 8796093022208 then (some (y144, (l5_0 ++ [(⟨a0_0, a0_1⟩ : S26)]))) else (none)) = some (r1, r2) := by first | (rw [hy144]; with_reducible exact H) | (have H2_ := (Option.bind_some _ _).symm.trans H; rw [hy144]; with_reducible exact H2_) | (have H2_ := (Option.bind_some _ _).symm.trans H; with_reducible exact H2_) | with_reducible exact H | (rw [hy144]; exact H) | exact H
         have Ny144 := Aside0.mk hy144
         clear hy144
         by_cases c31 : l5_0.length < 8796093022208
         ·rw [if_pos c31] at H
          have LMc31 := Aside0.mk c31
          clear c31
          obtain ⟨y145, hy145⟩ : ∃ y_ : List (S26), y_ = (l5_0 ++ [(⟨a0_0, a0_1⟩ : S26)]) := ⟨_, rfl⟩
          replace H : (some (y144, y145)) = some (r1, r2) := by first | (rw [hy145]; with_reducible exact H) | (have H2_ := (Option.bind_some _ _).symm.trans H; rw [hy145]; with_reducible exact H2_) | (have H2_ := (Option.bind_some _ _).symm.trans H; with_reducible exact H2_) | with_reducible exact H | (rw [hy145]; exact H) | exact H
          have Ny145 := Aside0.mk hy145
          clear hy145
          simp only [Option.some.injEq, Prod.mk.injEq] at H
          obtain ⟨rfl, rfl⟩ := H
          have hnb32 := NB140_132.out
          have hnc32 := NB132_140.out
          have hnb33 := NB140_133.out
          have hnc33 := NB133_140.out
          have hnb34 := NB140_134.out
          have hnc34 := NB134_140.out
          have hnb35 := NB140_135.out
          have hnc35 := NB135_140.out
          have hnb36 := NB140_136.out
          have hnc36 := NB136_140.out
          have hnb37 := NB140_137.out
          have hnc37 := NB137_140.out
          have hnb38 := NB140_138.out
          have hnc38 := NB138_140.out
          have hnb39 := NB140_139.out
          have hnc39 := NB139_140.out
          obtain ⟨hcz40_0, hcz40_1, hfz40_0, hfz40_1⟩ := zq2 BK140
          have hnb41 := NB132_133.out
          have hnc41 := NB133_132.out
          have hnb42 := NB132_134.out
          have hnc42 := NB134_132.out
          have hnb43 := NB132_135.out
          have hnc43 := NB135_132.out
          have hnb44 := NB132_136.out
          have hnc44 := NB136_132.out
          have hnb45 := NB132_137.out
          have hnc45 := NB137_132.out
          have hnb46 := NB132_138.out
          have hnc46 := NB138_132.out
          have hnb47 := NB132_139.out
          have hnc47 := NB139_132.out
          obtain ⟨hcz48_0, hcz48_1, hcz48_2, hfz48_0, hfz48_1, hfz48_2⟩ := zq3 BK132
          try go_wp2
          replace HO_134002 := zrd HO_134002
          replace HO_137000 := zrd HO_137000
          replace BK132 := zkd BK132
          replace BK133 := zkd BK133
          replace BK134 := zkd BK134
          replace BK135 := zkd BK135
          replace BK136 := zkd BK136
          replace BK137 := zkd BK137
          replace BK138 := zkd BK138
          replace BK139 := zkd BK139
          replace BK140 := zkd BK140
          replace HB := zbd HB
          obtain ⟨Ao50, co50, eo50⟩ := Kd.R_slice HO_134002.out
          (first | subst eo50 | (injection eo50 with f1_ f2_ f3_; have f4_ := f1_.symm; have f5_ := f3_.symm; clear f1_ f2_ f3_; subst f4_; subst f5_))
          have p141 : 0 ≤ ((ji23) : Int) := of_decide_eq_true (by first | (with_reducible assumption) | assumption)
          have q141 : (ji23) < (l2_2.length : Int) := of_decide_eq_true (by first | (with_reducible assumption) | assumption)
          obtain ⟨ad141, e141, hx141_0⟩ := Kd.at_int (Kd.R_reads' HO_134002.out).2.2 (ji23) p141 q141
          cases e141
          replace p141 := eq_true p141
          replace q141 := eq_true q141
          have p142 : 0 ≤ ((ji23) : Int) := of_decide_eq_true (by first | (with_reducible assumption) | assumption)
          have q142 : (ji23) < (l1_2.length : Int) := of_decide_eq_true (by first | (with_reducible assumption) | assumption)
          obtain ⟨ad142, e142, hx142_0, hx142_1, hx142_2, hx142_3⟩ := at_T37 HR1_2.out (ji23) p142 q142
          have hw142_3 := hx142_3
          have hw142_2 := hx142_2
          have hw142_1 := hx142_1
          have hw142_0 := hx142_0
          cases e142
          replace hx142_0 := (HB.out.cell (World.block_lt_of_cell? w _ hx142_0)).trans hx142_0
          replace hx142_1 := (HB.out.cell (World.block_lt_of_cell? w _ hx142_1)).trans hx142_1
          replace hx142_2 := (HB.out.cell (World.block_lt_of_cell? w _ hx142_2)).trans hx142_2
          replace hx142_3 := (HB.out.cell (World.block_lt_of_cell? w _ hx142_3)).trans hx142_3
          replace p142 := eq_true p142
          replace q142 := eq_true q142
          refine start_ (n := 17) (S := fun w' => w'.cell? ⟨gc2_0, 0, none⟩ = some (.int .i64 a2_0) ∧ w'.cell? ⟨gc2_0, 1, none⟩ = some (.int .i64 a2_1) ∧ w'.cell? ⟨gc2_0, 2, none⟩ = some (.slice (some ad141) l2_2.length co50) ∧ w'.cell? ⟨gc1_0, 0, none⟩ = some (.int .i64 a1_0) ∧ w'.cell? ⟨gc1_0, 1, none⟩ = some (.int .i64 a1_1) ∧ w'.cell? ⟨gc1_0, 2, none⟩ = some (.slice (some ad142) l1_2.length c1_2) ∧ w'.cell? ⟨gc3_0, 0, none⟩ = some (.int .i64 a3_0) ∧ w'.cell? ⟨gc3_0, 1, none⟩ = some (.int .i64 a3_1) ∧ w'.cell? ⟨gc3_0, 2, none⟩ = some (.int .i64 a3_2) ∧ w'.cell? ⟨gc3_0, 3, none⟩ = some (.int .i64 a3_3) ∧ w'.cell? ⟨gc4_0, 0, none⟩ = some (.int .i64 a4_0) ∧ w'.cell? (ad141.add ((ji23)).toNat) = some (.int .i64 (rd l2_2 (ji23))) ∧ w'.cell? (ad142.add (((ji23)).toNat * 4)) = some (.int .i64 ((rd_T37 l1_2 (ji23)).f0)) ∧ w'.cell? ⟨(ad142.add (((ji23)).toNat * 4)).block, (ad142.add (((ji23)).toNat * 4)).off + 1, none⟩ = some (.int .i64 ((rd_T37 l1_2 (ji23)).f1)) ∧ w'.cell? ⟨(ad142.add (((ji23)).toNat * 4)).block, (ad142.add (((ji23)).toNat * 4)).off + 2, none⟩ = some (.int .i64 ((rd_T37 l1_2 (ji23)).f2)) ∧ w'.cell? ⟨(ad142.add (((ji23)).toNat * 4)).block, (ad142.add (((ji23)).toNat * 4)).off + 3, none⟩ = some (.int .i64 ((rd_T37 l1_2 (ji23)).f3))) (ds := []) (bs 17 0) (by kernel_rfl) rfl rfl ⟨(blk_cell BK133.out 0).trans rfl, (blk_cell BK133.out 1).trans rfl, (blk_cell BK133.out 2).trans rfl, (blk_cell BK132.out 0).trans rfl, (blk_cell BK132.out 1).trans rfl, (blk_cell BK132.out 2).trans rfl, (blk_cell BK134.out 0).trans rfl, (blk_cell BK134.out 1).trans rfl, (blk_cell BK134.out 2).trans rfl, (blk_cell BK134.out 3).trans rfl, (blk_cell BK135.out 0).trans rfl, hx141_0, ((HB.out.cell (World.block_lt_of_cell? w _ hw142_0)).trans hw142_0), ((HB.out.cell (World.block_lt_of_cell? w _ hw142_1)).trans hw142_1), ((HB.out.cell (World.block_lt_of_cell? w _ hw142_2)).trans hw142_2), ((HB.out.cell (World.block_lt_of_cell? w _ hw142_3)).trans hw142_3)⟩ (fun hHeld => ?_); refine with_tabW wand_Flood_1.tab3 wand_Flood_1.bits3 (fun HT_ HW_ => ?_)
          generalize wc.drew = w49 at HO_134002 HO_137000 BK132 BK133 BK134 BK135 BK136 BK137 BK138 BK139 BK140 HB hx141_0 hx142_0 hx142_1 hx142_2 hx142_3 hHeld ⊢
          refine pure_ (i := 0) (N := some 38) (v := ?_) (a' := ?_) (bs 17 1) rfl rfl (any_of HT_.out (by kernel_rfl)) (fun _ _ _ h => h) (Or.inl ⟨by rfl, ?_⟩) ?_ ?_
          rotate_left
          ·intro w'
           go_simp
           with_reducible rfl
          rotate_left
          ·simp only [Act.put, sA, sB, sC, i64_w, i32_w]
           rfl
          refine pure_ (i := 2) (N := some 40) (v := ?_) (a' := ?_) (bs 17 5) rfl rfl (any_of HT_.out (by kernel_rfl)) (fun _ _ _ h => h) (Or.inl ⟨by rfl, ?_⟩) ?_ ?_
          rotate_left
          ·intro w'
           go_simp
           with_reducible rfl
          rotate_left
          ·simp only [Act.put, sA, sB, sC, i64_w, i32_w]
           rfl
          refine take_ (i := 1) (N := some 39) (v := ?_) (a' := ?_) (bs 17 7) rfl rfl (take_ofW HT_.out HW_.out (by kernel_rfl)) (fun _ _ _ h => h) (Or.inl ⟨by rfl, ?_⟩) hHeld ?_ ?_
          rotate_left
          ·rintro w' ⟨s0, s1, s2, s3, s4, s5, s6, s7, s8, s9, s10, s11, s12, s13, s14, s15⟩
           go_simp
           with_reducible rfl
          rotate_left
          ·simp only [Act.put, sA, sB, sC, i64_w, i32_w]
           rfl
          refine pure_ (i := 3) (N := some 41) (v := ?_) (a' := ?_) (bs 17 15) rfl rfl (any_of HT_.out (by kernel_rfl)) (fun _ _ _ h => h) (Or.inl ⟨by rfl, ?_⟩) ?_ ?_
          rotate_left
          ·intro w'
           go_simp
           with_reducible rfl
          rotate_left
          ·simp only [Act.put, sA, sB, sC, i64_w, i32_w]
           rfl
          refine take_ (i := 4) (N := some 42) (v := ?_) (a' := ?_) (bs 17 31) rfl rfl (take_ofW HT_.out HW_.out (by kernel_rfl)) (fun _ _ _ h => h) (Or.inl ⟨by rfl, ?_⟩) hHeld ?_ ?_
          rotate_left
          ·rintro w' ⟨s0, s1, s2, s3, s4, s5, s6, s7, s8, s9, s10, s11, s12, s13, s14, s15⟩
           go_simp
           with_reducible rfl
          rotate_left
          ·simp only [Act.put, sA, sB, sC, i64_w, i32_w]
           rfl
          refine pure_ (i := 5) (N := some 43) (v := ?_) (a' := ?_) (bs 17 63) rfl rfl (any_of HT_.out (by kernel_rfl)) (fun _ _ _ h => h) (Or.inl ⟨by rfl, ?_⟩) ?_ ?_
          rotate_left
          ·intro w'
           go_simp
           with_reducible rfl
          rotate_left
          ·simp only [Act.put, sA, sB, sC, i64_w, i32_w]
           rfl
          refine pure_ (i := 6) (N := some 44) (v := ?_) (a' := ?_) (bs 17 127) rfl rfl (any_of HT_.out (by kernel_rfl)) (fun _ _ _ h => h) (Or.inl ⟨by rfl, ?_⟩) ?_ ?_
          rotate_left
          ·intro w'
           go_simp
           with_reducible rfl
          rotate_left
          ·simp only [Act.put, sA, sB, sC, i64_w, i32_w]
           rfl
          refine pure_ (i := 7) (N := some 45) (v := ?_) (a' := ?_) (bs 17 255) rfl rfl (any_of HT_.out (by kernel_rfl)) (fun _ _ _ h => h) (Or.inl ⟨by rfl, ?_⟩) ?_ ?_
          rotate_left
          ·intro w'
           go_simp
           with_reducible rfl
          rotate_left
          ·simp only [Act.put, sA, sB, sC, i64_w, i32_w]
           rfl
          refine pure_ (i := 9) (N := some 47) (v := ?_) (a' := ?_) (bs 17 767) rfl rfl (any_of HT_.out (by kernel_rfl)) (fun _ _ _ h => h) (Or.inl ⟨by rfl, ?_⟩) ?_ ?_
          rotate_left
          ·intro w'
           go_simp
           with_reducible rfl
          rotate_left
          ·simp only [Act.put, sA, sB, sC, i64_w, i32_w]
           rfl
          refine take_ (i := 8) (N := some 46) (v := ?_) (a' := ?_) (bs 17 1023) rfl rfl (take_ofW HT_.out HW_.out (by kernel_rfl)) (fun _ _ _ h => h) (Or.inl ⟨by rfl, ?_⟩) hHeld ?_ ?_
          rotate_left
          ·rintro w' ⟨s0, s1, s2, s3, s4, s5, s6, s7, s8, s9, s10, s11, s12, s13, s14, s15⟩
           go_simp
           with_reducible rfl
          rotate_left
          ·simp only [Act.put, sA, sB, sC, i64_w, i32_w]
           rfl
          refine pure_ (i := 10) (N := some 48) (v := ?_) (a' := ?_) (bs 17 2047) rfl rfl (any_of HT_.out (by kernel_rfl)) (fun _ _ _ h => h) (Or.inl ⟨by rfl, ?_⟩) ?_ ?_
          rotate_left
          ·intro w'
           go_simp
           with_reducible rfl
          rotate_left
          ·simp only [Act.put, sA, sB, sC, i64_w, i32_w]
           rfl
          refine take_ (i := 11) (N := some 49) (v := ?_) (a' := ?_) (bs 17 4095) rfl rfl (take_ofW HT_.out HW_.out (by kernel_rfl)) (fun _ _ _ h => h) (Or.inl ⟨by rfl, ?_⟩) hHeld ?_ ?_
          rotate_left
          ·rintro w' ⟨s0, s1, s2, s3, s4, s5, s6, s7, s8, s9, s10, s11, s12, s13, s14, s15⟩
           go_simp
           with_reducible rfl
          rotate_left
          ·simp only [Act.put, sA, sB, sC, i64_w, i32_w]
           rfl
          refine take_ (i := 12) (N := some 50) (v := ?_) (a' := ?_) (bs 17 8191) rfl rfl (take_ofW HT_.out HW_.out (by kernel_rfl)) (fun _ _ _ h => h) (Or.inl ⟨by rfl, ?_⟩) hHeld ?_ ?_
          rotate_left
          ·rintro w' ⟨s0, s1, s2, s3, s4, s5, s6, s7, s8, s9, s10, s11, s12, s13, s14, s15⟩
           go_simp
           with_reducible rfl
          rotate_left
          ·simp only [Act.put, sA, sB, sC, i64_w, i32_w]
           rfl
          refine take_ (i := 14) (N := some 52) (v := ?_) (a' := ?_) (bs 17 24575) rfl rfl (take_ofW HT_.out HW_.out (by kernel_rfl)) (fun _ _ _ h => h) (Or.inl ⟨by rfl, ?_⟩) hHeld ?_ ?_
          rotate_left
          ·rintro w' ⟨s0, s1, s2, s3, s4, s5, s6, s7, s8, s9, s10, s11, s12, s13, s14, s15⟩
           go_simp
           with_reducible rfl
          rotate_left
          ·simp only [Act.put, sA, sB, sC, i64_w, i32_w]
           rfl
          refine one_ (i := 13) (N := some 51) (bs 17 32767) rfl rfl (one_of HT_.out (by kernel_rfl)) (by decide) (fun K hK => ?_)
          refine goes_ Try.func20 (by kernel_rfl) rfl #[.agg #[.int .i64 ((rd_T37 l1_2 (ji23)).f0), .int .i64 ((rd_T37 l1_2 (ji23)).f1), .int .i64 ((rd_T37 l1_2 (ji23)).f2), .int .i64 ((rd_T37 l1_2 (ji23)).f3)], .agg #[.int .i64 a3_0, .int .i64 a3_1, .int .i64 a3_2, .int .i64 a3_3]] (by rfl) rfl rfl (by (try simp only [List.map_toArray, List.map_cons, List.map_nil]); first | done | (simp only [hji23]; rfl) | rfl | (simp only [List.length_drop, List.length_take]; rfl)) ?_
          with_reducible refine (pixel_Dist.calls ((rd_T37 l1_2 (ji23)).f0) ((rd_T37 l1_2 (ji23)).f1) ((rd_T37 l1_2 (ji23)).f2) ((rd_T37 l1_2 (ji23)).f3) a3_0 a3_1 a3_2 a3_3 t143 _ A28.out).mono ?_
          rintro e w51 ⟨rfl, hb⟩
          have HS11_ := (hb.cell (World.block_lt_of_cell? _ _ (hHeld.2.2.2.2.2.2.2.2.2.2.2.1))).trans (hHeld.2.2.2.2.2.2.2.2.2.2.2.1)
          refine ⟨_, rfl, ?_⟩
          replace HO_134002 := zr HO_134002 hb
          replace HO_137000 := zr HO_137000 hb
          replace BK132 := zk BK132 hb
          replace BK133 := zk BK133 hb
          replace BK134 := zk BK134 hb
          replace BK135 := zk BK135 hb
          replace BK136 := zk BK136 hb
          replace BK137 := zk BK137 hb
          replace BK138 := zk BK138 hb
          replace BK139 := zk BK139 hb
          replace BK140 := zk BK140 hb
          replace HB := zb HB hb
          (try clear hb)
          (try clear hb2)
          (try clear hk)
          (try clear hi)
          refine hK.out _ _ ⟨(blk_cell BK133.out 0).trans rfl, (blk_cell BK133.out 1).trans rfl, (blk_cell BK133.out 2).trans rfl, (blk_cell BK132.out 0).trans rfl, (blk_cell BK132.out 1).trans rfl, (blk_cell BK132.out 2).trans rfl, (blk_cell BK134.out 0).trans rfl, (blk_cell BK134.out 1).trans rfl, (blk_cell BK134.out 2).trans rfl, (blk_cell BK134.out 3).trans rfl, (blk_cell BK135.out 0).trans rfl, HS11_, ((HB.out.cell (World.block_lt_of_cell? w _ hw142_0)).trans hw142_0), ((HB.out.cell (World.block_lt_of_cell? w _ hw142_1)).trans hw142_1), ((HB.out.cell (World.block_lt_of_cell? w _ hw142_2)).trans hw142_2), ((HB.out.cell (World.block_lt_of_cell? w _ hw142_3)).trans hw142_3)⟩ (fun hHeld => ?_)
          clear hK K
          refine norm_ (a' := ?_) ?_ ?_
          rotate_left
          ·show Act.put _ (some 51) _ = _
           simp only [Act.put, sA, sB, sC, i64_w, i32_w]
           rfl
          refine pure_ (i := 15) (N := some 53) (v := ?_) (a' := ?_) (bs 17 65535) rfl rfl (any_of HT_.out (by kernel_rfl)) (fun _ _ _ h => h) (Or.inl ⟨by rfl, ?_⟩) ?_ ?_
          rotate_left
          ·intro w'
           go_simp
           with_reducible rfl
          rotate_left
          ·simp only [Act.put, sA, sB, sC, i64_w, i32_w]
           rfl
          refine pure_ (i := 16) (N := some 54) (v := ?_) (a' := ?_) (bs 17 131071) rfl rfl (any_of HT_.out (by kernel_rfl)) (fun _ _ _ h => h) (Or.inl ⟨by rfl, ?_⟩) ?_ ?_
          rotate_left
          ·intro w'
           go_simp
           with_reducible rfl
          rotate_left
          ·simp only [Act.put, sA, sB, sC, i64_w, i32_w]
           rfl
          refine done_ (done_of HT_.out (by kernel_rfl)) ?_
          have hnb52 := NB133_134.out
          have hnc52 := NB134_133.out
          have hnb53 := NB133_135.out
          have hnc53 := NB135_133.out
          have hnb54 := NB133_136.out
          have hnc54 := NB136_133.out
          have hnb55 := NB133_137.out
          have hnc55 := NB137_133.out
          have hnb56 := NB133_138.out
          have hnc56 := NB138_133.out
          have hnb57 := NB133_139.out
          have hnc57 := NB139_133.out
          obtain ⟨hcz58_0, hcz58_1, hcz58_2, hfz58_0, hfz58_1, hfz58_2⟩ := zq3 BK133
          have p30 : 0 ≤ ((ji23) : Int) := of_decide_eq_true (by first | (with_reducible assumption) | assumption)
          have q30 : ((ji23) : Int) < ((l2_2.length : Int) : Int) := of_decide_eq_true (by first | (with_reducible assumption) | assumption)
          obtain ⟨go30, co30, eo30, gb30, gl30, cl30, HG30⟩ := Kd.R_form HO_134002.out (by omega)
          (first | cases eo30 | (injection eo30 with ea_ en_ ec_; (first | subst ea_ | (injection ea_ with ea_; subst ea_)); subst ec_; clear en_))
          have GB30 := Aside0.mk gb30
          have GG30 := Aside0.mk HG30
          clear gb30 gl30 HG30
          (first | simp only [add_plain] at hx141_0 | skip)
          obtain ⟨hx30_0, hf30_0⟩ := Kd.R_celln 0 HO_134002.out ((ji23) : Int) p30 q30
          replace p30 := eq_true p30
          replace q30 := eq_true q30
          obtain ⟨hy59_, hz59_⟩ := Kd.R_celln 0 HO_134002.out ((ji23) : Int) (of_decide_eq_true (by first | (with_reducible assumption) | assumption)) (of_decide_eq_true (by first | (with_reducible assumption) | assumption))
          have HP59 := Kd.R_putg HO_134002.out ((ji23) : Int) 65535
          try go_wp2_with (first | ((with_reducible refine gate_store (t := 3) (p := 58) rfl ?_); refine store_event (t := 3) (p := 58) (v := ?vo_w60) (w1 := (w51.setCell ⟨go30, ((ji23) : Int).toNat, none⟩ (.int .i64 65535))) ?hg ?ho ?hn ?hr ?_; (case ho => rfl); (case hg => rfl); (case hn => rfl); (case hr => first | (go_simp; done) | (go_simp; rfl)); intro w60 hw; have hg : w51.grownBy w60 (some go30) := (by rw [hw]; exact HP59.2); have hp_ : Kd.R (Kd.int .i64) 3 w60 w.heap.size (fun k_ => k_ ≠ gc4_0) (.slice (some ⟨go30, 0, none⟩) l2_2.length co50) y144 := (by rw [hw, Ny144.out]; exact HP59.1); clear HP59; have n0_ := Aside0.mk (hp_); have n1_ := Aside0.mk (Kd.R_over' (v := (.slice (some ⟨go30, 0, none⟩) l2_2.length co50)) (by exact zr0 HO_137000) (Kd.R_typed HO_134002.out) (by decide) hg); have n2_ := Aside0.mk (blk_grown (zk0 BK132) hg (Kd.R_ne HO_134002.out BK132.out (by decide))); have n3_ := Aside0.mk (blk_grown (zk0 BK133) hg (Kd.R_ne HO_134002.out BK133.out (by decide))); have n4_ := Aside0.mk (blk_grown (zk0 BK134) hg (Kd.R_ne HO_134002.out BK134.out (by decide))); have n5_ := Aside0.mk (blk_grown (zk0 BK135) hg (Kd.R_away HO_134002.out (fun _ hk => hk))); have n6_ := Aside0.mk (blk_grown (zk0 BK136) hg (Kd.R_ne HO_134002.out BK136.out (by decide))); have n7_ := Aside0.mk (blk_grown (zk0 BK137) hg (Kd.R_ne HO_134002.out BK137.out (by decide))); have n8_ := Aside0.mk (blk_grown (zk0 BK138) hg (Kd.R_ne HO_134002.out BK138.out (by decide))); have n9_ := Aside0.mk (blk_grown (zk0 BK139) hg (Kd.R_ne HO_134002.out BK139.out (by decide))); have n10_ := Aside0.mk (blk_grown (zk0 BK140) hg (Kd.R_ne HO_134002.out BK140.out (by decide))); have n11_ := Aside0.mk ((by rw [hw]; exact below_set (HB.out) GB30.out : Below w.heap.size w w60)); clear HO_134002; clear HO_137000; clear BK132; clear BK133; clear BK134; clear BK135; clear BK136; clear BK137; clear BK138; clear BK139; clear BK140; clear HB; have HO_134002 := n0_; have HO_137000 := n1_; have BK132 := n2_; have BK133 := n3_; have BK134 := n4_; have BK135 := n5_; have BK136 := n6_; have BK137 := n7_; have BK138 := n8_; have BK139 := n9_; have BK140 := n10_; have HB := n11_; clear n0_ n1_ n2_ n3_ n4_ n5_ n6_ n7_ n8_ n9_ n10_ n11_; clear hg hw hp_; have hnb61 := NB136_134.out; have hnc61 := NB134_136.out; have hnb62 := NB136_135.out; have hnc62 := NB135_136.out; have hnb63 := NB136_137.out; have hnc63 := NB137_136.out; have hnb64 := NB136_138.out; have hnc64 := NB138_136.out; have hnb65 := NB136_139.out; have hnc65 := NB139_136.out; obtain ⟨hcz66_0, hfz66_0⟩ := zq1 BK136; obtain ⟨hcz67_0, hcz67_1, hfz67_0, hfz67_1⟩ := zq2 BK140) | ((with_reducible refine gate_builtin (b := .append) (xs := #[.tmp 59, .tmp 61]) rfl ?_); at_builtin; refine Kd.R_append k26 (w0 := w) w.heap.size rfl (.tmp 59) (.tmp 61) 48 26 (.agg #[(.int .i64 0), (.int .i64 0)]) 16 rfl Try.underlying48 info26 rfl (by decide) (by omega) u9101_ l5_0 (⟨a0_0, a0_1⟩ : S26) [.int .i64 a0_0, .int .i64 a0_1] (fun k_ => k_ ≠ gc6_0 ∧ k_ ≠ gc8_0 ∧ k_ ≠ gb140) (fun _ => False) rfl rfl ?aP (fun _ hk => hk.elim) ?aF ?aO ?aB ?aS ?aL ?_; (case aP => exact k26_mkM _ _ _ (⟨a0_0, a0_1⟩ : S26)); (case aB => exact (by exact zb0 HB)); (case aF => exact (fun k_ hk => ⟨Kd.freshB (zk0 BK137) k_ hk, Kd.freshB (zk0 BK139) k_ hk, Kd.freshB (zk0 BK140) k_ hk⟩)); (case aO => exact (by exact zr0 HO_137000)); (case aS => exact (below_size (by exact zb0 HB))); (case aL => have := LMc31.out; omega); intro v146 w68 ho hb hg hat; rw [← Ny145.out] at ho; have n0_ := Aside0.mk (Kd.R_over' (by exact zr0 HO_134002) (Kd.R_typed (by exact zr0 HO_137000)) (by decide) hg); have n1_ := Aside0.mk (blk_grown (zk0 BK132) hg (Kd.R_ne HO_137000.out BK132.out (by decide))); have n2_ := Aside0.mk (blk_grown (zk0 BK133) hg (Kd.R_ne HO_137000.out BK133.out (by decide))); have n3_ := Aside0.mk (blk_grown (zk0 BK134) hg (Kd.R_ne HO_137000.out BK134.out (by decide))); have n4_ := Aside0.mk (blk_grown (zk0 BK135) hg (Kd.R_ne HO_137000.out BK135.out (by decide))); have n5_ := Aside0.mk (blk_grown (zk0 BK136) hg (Kd.R_ne HO_137000.out BK136.out (by decide))); have n6_ := Aside0.mk (blk_grown (zk0 BK137) hg (Kd.R_away HO_137000.out (fun _ hk => hk.1))); have n7_ := Aside0.mk (blk_grown (zk0 BK138) hg (Kd.R_ne HO_137000.out BK138.out (by decide))); have n8_ := Aside0.mk (blk_grown (zk0 BK139) hg (Kd.R_away HO_137000.out (fun _ hk => hk.2.1))); have n9_ := Aside0.mk (blk_grown (zk0 BK140) hg (Kd.R_away HO_137000.out (fun _ hk => hk.2.2))); have n10_ := Aside0.mk (hb); have n11_ := Aside0.mk (ho); clear HO_134002; clear BK132; clear BK133; clear BK134; clear BK135; clear BK136; clear BK137; clear BK138; clear BK139; clear BK140; clear HB; clear HO_137000; have HO_134002 := n0_; have BK132 := n1_; have BK133 := n2_; have BK134 := n3_; have BK135 := n4_; have BK136 := n5_; have BK137 := n6_; have BK138 := n7_; have BK139 := n8_; have BK140 := n9_; have HB := n10_; have HO147 := n11_; clear n0_ n1_ n2_ n3_ n4_ n5_ n6_ n7_ n8_ n9_ n10_ n11_; clear ho hb hg hat; obtain ⟨Ao69, co69, eo69⟩ := Kd.R_slice HO147.out; subst eo69; obtain ⟨hcz70_0, hfz70_0⟩ := zq1 BK136))
          first | go_end0 | ((try simp only [Exit.inBlock, Exit.then]); refine bodyPost_ret (results_none rfl _ _ _) rfl ?_)
          exact ⟨.slice (some ⟨go30, 0, none⟩) l2_2.length co50, .slice Ao69 y145.length co69, by first | rfl | (simp [*] <;> rfl), (by exact zf BK132 NB132_136), (by exact zf BK133 NB133_136), (by exact zf BK134 NB134_136), (by exact zf BK135 NB135_136), (by exact zp BK136 rfl), (by exact zf BK137 NB137_136), (by exact zf BK138 NB138_136), (by exact zf BK139 NB139_136), (by exact zro HO_134002 BK136 (by decide)), (by (with_reducible repeat (first | apply Kd.R_alloc | apply Kd.R_drewN | apply Kd.R_drew)); exact Kd.R_mono (Kd.R_far (p := ⟨gc5_0, 0, none⟩) (Kd.R_types HO147.out BK136.out (by decide)) (fun _ hk => hk.2) (.slice Ao69 y145.length co69)) (fun _ hk => ⟨hk.1.1, hk.1.2.1⟩)), by exact zbo HB GE136⟩
         ·rw [if_neg c31] at H
          exact absurd H (by simp)
        ·rw [if_neg c29] at H
         have c29b0 : decide (t143 ≤ a4_0) = false := decide_eq_false c29
         clear c29
         simp only [Option.some.injEq, Prod.mk.injEq] at H
         obtain ⟨rfl, rfl⟩ := H
         obtain ⟨hcz71_0, hcz71_1, hfz71_0, hfz71_1⟩ := zq2 BK140
         obtain ⟨hcz72_0, hcz72_1, hcz72_2, hfz72_0, hfz72_1, hfz72_2⟩ := zq3 BK132
         try go_wp2
         replace HO_134002 := zrd HO_134002
         replace HO_137000 := zrd HO_137000
         replace BK132 := zkd BK132
         replace BK133 := zkd BK133
         replace BK134 := zkd BK134
         replace BK135 := zkd BK135
         replace BK136 := zkd BK136
         replace BK137 := zkd BK137
         replace BK138 := zkd BK138
         replace BK139 := zkd BK139
         replace BK140 := zkd BK140
         replace HB := zbd HB
         obtain ⟨Ao74, co74, eo74⟩ := Kd.R_slice HO_134002.out
         (first | subst eo74 | (injection eo74 with f1_ f2_ f3_; have f4_ := f1_.symm; have f5_ := f3_.symm; clear f1_ f2_ f3_; subst f4_; subst f5_))
         have p141 : 0 ≤ ((ji23) : Int) := of_decide_eq_true (by first | (with_reducible assumption) | assumption)
         have q141 : (ji23) < (l2_2.length : Int) := of_decide_eq_true (by first | (with_reducible assumption) | assumption)
         obtain ⟨ad141, e141, hx141_0⟩ := Kd.at_int (Kd.R_reads' HO_134002.out).2.2 (ji23) p141 q141
         cases e141
         replace p141 := eq_true p141
         replace q141 := eq_true q141
         have p142 : 0 ≤ ((ji23) : Int) := of_decide_eq_true (by first | (with_reducible assumption) | assumption)
         have q142 : (ji23) < (l1_2.length : Int) := of_decide_eq_true (by first | (with_reducible assumption) | assumption)
         obtain ⟨ad142, e142, hx142_0, hx142_1, hx142_2, hx142_3⟩ := at_T37 HR1_2.out (ji23) p142 q142
         have hw142_3 := hx142_3
         have hw142_2 := hx142_2
         have hw142_1 := hx142_1
         have hw142_0 := hx142_0
         cases e142
         replace hx142_0 := (HB.out.cell (World.block_lt_of_cell? w _ hx142_0)).trans hx142_0
         replace hx142_1 := (HB.out.cell (World.block_lt_of_cell? w _ hx142_1)).trans hx142_1
         replace hx142_2 := (HB.out.cell (World.block_lt_of_cell? w _ hx142_2)).trans hx142_2
         replace hx142_3 := (HB.out.cell (World.block_lt_of_cell? w _ hx142_3)).trans hx142_3
         replace p142 := eq_true p142
         replace q142 := eq_true q142
         refine start_ (n := 17) (S := fun w' => w'.cell? ⟨gc2_0, 0, none⟩ = some (.int .i64 a2_0) ∧ w'.cell? ⟨gc2_0, 1, none⟩ = some (.int .i64 a2_1) ∧ w'.cell? ⟨gc2_0, 2, none⟩ = some (.slice (some ad141) l2_2.length co74) ∧ w'.cell? ⟨gc1_0, 0, none⟩ = some (.int .i64 a1_0) ∧ w'.cell? ⟨gc1_0, 1, none⟩ = some (.int .i64 a1_1) ∧ w'.cell? ⟨gc1_0, 2, none⟩ = some (.slice (some ad142) l1_2.length c1_2) ∧ w'.cell? ⟨gc3_0, 0, none⟩ = some (.int .i64 a3_0) ∧ w'.cell? ⟨gc3_0, 1, none⟩ = some (.int .i64 a3_1) ∧ w'.cell? ⟨gc3_0, 2, none⟩ = some (.int .i64 a3_2) ∧ w'.cell? ⟨gc3_0, 3, none⟩ = some (.int .i64 a3_3) ∧ w'.cell? ⟨gc4_0, 0, none⟩ = some (.int .i64 a4_0) ∧ w'.cell? (ad141.add ((ji23)).toNat) = some (.int .i64 (rd l2_2 (ji23))) ∧ w'.cell? (ad142.add (((ji23)).toNat * 4)) = some (.int .i64 ((rd_T37 l1_2 (ji23)).f0)) ∧ w'.cell? ⟨(ad142.add (((ji23)).toNat * 4)).block, (ad142.add (((ji23)).toNat * 4)).off + 1, none⟩ = some (.int .i64 ((rd_T37 l1_2 (ji23)).f1)) ∧ w'.cell? ⟨(ad142.add (((ji23)).toNat * 4)).block, (ad142.add (((ji23)).toNat * 4)).off + 2, none⟩ = some (.int .i64 ((rd_T37 l1_2 (ji23)).f2)) ∧ w'.cell? ⟨(ad142.add (((ji23)).toNat * 4)).block, (ad142.add (((ji23)).toNat * 4)).off + 3, none⟩ = some (.int .i64 ((rd_T37 l1_2 (ji23)).f3))) (ds := []) (bs 17 0) (by kernel_rfl) rfl rfl ⟨(blk_cell BK133.out 0).trans rfl, (blk_cell BK133.out 1).trans rfl, (blk_cell BK133.out 2).trans rfl, (blk_cell BK132.out 0).trans rfl, (blk_cell BK132.out 1).trans rfl, (blk_cell BK132.out 2).trans rfl, (blk_cell BK134.out 0).trans rfl, (blk_cell BK134.out 1).trans rfl, (blk_cell BK134.out 2).trans rfl, (blk_cell BK134.out 3).trans rfl, (blk_cell BK135.out 0).trans rfl, hx141_0, ((HB.out.cell (World.block_lt_of_cell? w _ hw142_0)).trans hw142_0), ((HB.out.cell (World.block_lt_of_cell? w _ hw142_1)).trans hw142_1), ((HB.out.cell (World.block_lt_of_cell? w _ hw142_2)).trans hw142_2), ((HB.out.cell (World.block_lt_of_cell? w _ hw142_3)).trans hw142_3)⟩ (fun hHeld => ?_); refine with_tabW wand_Flood_1.tab3 wand_Flood_1.bits3 (fun HT_ HW_ => ?_)
         generalize wc.drew = w73 at HO_134002 HO_137000 BK132 BK133 BK134 BK135 BK136 BK137 BK138 BK139 BK140 HB hx141_0 hx142_0 hx142_1 hx142_2 hx142_3 hHeld ⊢
         refine pure_ (i := 0) (N := some 38) (v := ?_) (a' := ?_) (bs 17 1) rfl rfl (any_of HT_.out (by kernel_rfl)) (fun _ _ _ h => h) (Or.inl ⟨by rfl, ?_⟩) ?_ ?_
         rotate_left
         ·intro w'
          go_simp
          with_reducible rfl
         rotate_left
         ·simp only [Act.put, sA, sB, sC, i64_w, i32_w]
          rfl
         refine pure_ (i := 2) (N := some 40) (v := ?_) (a' := ?_) (bs 17 5) rfl rfl (any_of HT_.out (by kernel_rfl)) (fun _ _ _ h => h) (Or.inl ⟨by rfl, ?_⟩) ?_ ?_
         rotate_left
         ·intro w'
          go_simp
          with_reducible rfl
         rotate_left
         ·simp only [Act.put, sA, sB, sC, i64_w, i32_w]
          rfl
         refine take_ (i := 1) (N := some 39) (v := ?_) (a' := ?_) (bs 17 7) rfl rfl (take_ofW HT_.out HW_.out (by kernel_rfl)) (fun _ _ _ h => h) (Or.inl ⟨by rfl, ?_⟩) hHeld ?_ ?_
         rotate_left
         ·rintro w' ⟨s0, s1, s2, s3, s4, s5, s6, s7, s8, s9, s10, s11, s12, s13, s14, s15⟩
          go_simp
          with_reducible rfl
         rotate_left
         ·simp only [Act.put, sA, sB, sC, i64_w, i32_w]
          rfl
         refine pure_ (i := 3) (N := some 41) (v := ?_) (a' := ?_) (bs 17 15) rfl rfl (any_of HT_.out (by kernel_rfl)) (fun _ _ _ h => h) (Or.inl ⟨by rfl, ?_⟩) ?_ ?_
         rotate_left
         ·intro w'
          go_simp
          with_reducible rfl
         rotate_left
         ·simp only [Act.put, sA, sB, sC, i64_w, i32_w]
          rfl
         refine take_ (i := 4) (N := some 42) (v := ?_) (a' := ?_) (bs 17 31) rfl rfl (take_ofW HT_.out HW_.out (by kernel_rfl)) (fun _ _ _ h => h) (Or.inl ⟨by rfl, ?_⟩) hHeld ?_ ?_
         rotate_left
         ·rintro w' ⟨s0, s1, s2, s3, s4, s5, s6, s7, s8, s9, s10, s11, s12, s13, s14, s15⟩
          go_simp
          with_reducible rfl
         rotate_left
         ·simp only [Act.put, sA, sB, sC, i64_w, i32_w]
          rfl
         refine pure_ (i := 5) (N := some 43) (v := ?_) (a' := ?_) (bs 17 63) rfl rfl (any_of HT_.out (by kernel_rfl)) (fun _ _ _ h => h) (Or.inl ⟨by rfl, ?_⟩) ?_ ?_
         rotate_left
         ·intro w'
          go_simp
          with_reducible rfl
         rotate_left
         ·simp only [Act.put, sA, sB, sC, i64_w, i32_w]
          rfl
         refine pure_ (i := 6) (N := some 44) (v := ?_) (a' := ?_) (bs 17 127) rfl rfl (any_of HT_.out (by kernel_rfl)) (fun _ _ _ h => h) (Or.inl ⟨by rfl, ?_⟩) ?_ ?_
         rotate_left
         ·intro w'
          go_simp
          with_reducible rfl
         rotate_left
         ·simp only [Act.put, sA, sB, sC, i64_w, i32_w]
          rfl
         refine pure_ (i := 7) (N := some 45) (v := ?_) (a' := ?_) (bs 17 255) rfl rfl (any_of HT_.out (by kernel_rfl)) (fun _ _ _ h => h) (Or.inl ⟨by rfl, ?_⟩) ?_ ?_
         rotate_left
         ·intro w'
          go_simp
          with_reducible rfl
         rotate_left
         ·simp only [Act.put, sA, sB, sC, i64_w, i32_w]
          rfl
         refine pure_ (i := 9) (N := some 47) (v := ?_) (a' := ?_) (bs 17 767) rfl rfl (any_of HT_.out (by kernel_rfl)) (fun _ _ _ h => h) (Or.inl ⟨by rfl, ?_⟩) ?_ ?_
         rotate_left
         ·intro w'
          go_simp
          with_reducible rfl
         rotate_left
         ·simp only [Act.put, sA, sB, sC, i64_w, i32_w]
          rfl
         refine take_ (i := 8) (N := some 46) (v := ?_) (a' := ?_) (bs 17 1023) rfl rfl (take_ofW HT_.out HW_.out (by kernel_rfl)) (fun _ _ _ h => h) (Or.inl ⟨by rfl, ?_⟩) hHeld ?_ ?_
         rotate_left
         ·rintro w' ⟨s0, s1, s2, s3, s4, s5, s6, s7, s8, s9, s10, s11, s12, s13, s14, s15⟩
          go_simp
          with_reducible rfl
         rotate_left
         ·simp only [Act.put, sA, sB, sC, i64_w, i32_w]
          rfl
         refine pure_ (i := 10) (N := some 48) (v := ?_) (a' := ?_) (bs 17 2047) rfl rfl (any_of HT_.out (by kernel_rfl)) (fun _ _ _ h => h) (Or.inl ⟨by rfl, ?_⟩) ?_ ?_
         rotate_left
         ·intro w'
          go_simp
          with_reducible rfl
         rotate_left
         ·simp only [Act.put, sA, sB, sC, i64_w, i32_w]
          rfl
         refine take_ (i := 11) (N := some 49) (v := ?_) (a' := ?_) (bs 17 4095) rfl rfl (take_ofW HT_.out HW_.out (by kernel_rfl)) (fun _ _ _ h => h) (Or.inl ⟨by rfl, ?_⟩) hHeld ?_ ?_
         rotate_left
         ·rintro w' ⟨s0, s1, s2, s3, s4, s5, s6, s7, s8, s9, s10, s11, s12, s13, s14, s15⟩
          go_simp
          with_reducible rfl
         rotate_left
         ·simp only [Act.put, sA, sB, sC, i64_w, i32_w]
          rfl
         refine take_ (i := 12) (N := some 50) (v := ?_) (a' := ?_) (bs 17 8191) rfl rfl (take_ofW HT_.out HW_.out (by kernel_rfl)) (fun _ _ _ h => h) (Or.inl ⟨by rfl, ?_⟩) hHeld ?_ ?_
         rotate_left
         ·rintro w' ⟨s0, s1, s2, s3, s4, s5, s6, s7, s8, s9, s10, s11, s12, s13, s14, s15⟩
          go_simp
          with_reducible rfl
         rotate_left
         ·simp only [Act.put, sA, sB, sC, i64_w, i32_w]
          rfl
         refine take_ (i := 14) (N := some 52) (v := ?_) (a' := ?_) (bs 17 24575) rfl rfl (take_ofW HT_.out HW_.out (by kernel_rfl)) (fun _ _ _ h => h) (Or.inl ⟨by rfl, ?_⟩) hHeld ?_ ?_
         rotate_left
         ·rintro w' ⟨s0, s1, s2, s3, s4, s5, s6, s7, s8, s9, s10, s11, s12, s13, s14, s15⟩
          go_simp
          with_reducible rfl
         rotate_left
         ·simp only [Act.put, sA, sB, sC, i64_w, i32_w]
          rfl
         refine one_ (i := 13) (N := some 51) (bs 17 32767) rfl rfl (one_of HT_.out (by kernel_rfl)) (by decide) (fun K hK => ?_)
         refine goes_ Try.func20 (by kernel_rfl) rfl #[.agg #[.int .i64 ((rd_T37 l1_2 (ji23)).f0), .int .i64 ((rd_T37 l1_2 (ji23)).f1), .int .i64 ((rd_T37 l1_2 (ji23)).f2), .int .i64 ((rd_T37 l1_2 (ji23)).f3)], .agg #[.int .i64 a3_0, .int .i64 a3_1, .int .i64 a3_2, .int .i64 a3_3]] (by rfl) rfl rfl (by (try simp only [List.map_toArray, List.map_cons, List.map_nil]); first | done | (simp only [hji23]; rfl) | rfl | (simp only [List.length_drop, List.length_take]; rfl)) ?_
         with_reducible refine (pixel_Dist.calls ((rd_T37 l1_2 (ji23)).f0) ((rd_T37 l1_2 (ji23)).f1) ((rd_T37 l1_2 (ji23)).f2) ((rd_T37 l1_2 (ji23)).f3) a3_0 a3_1 a3_2 a3_3 t143 _ A28.out).mono ?_
         rintro e w75 ⟨rfl, hb⟩
         have HS11_ := (hb.cell (World.block_lt_of_cell? _ _ (hHeld.2.2.2.2.2.2.2.2.2.2.2.1))).trans (hHeld.2.2.2.2.2.2.2.2.2.2.2.1)
         refine ⟨_, rfl, ?_⟩
         replace HO_134002 := zr HO_134002 hb
         replace HO_137000 := zr HO_137000 hb
         replace BK132 := zk BK132 hb
         replace BK133 := zk BK133 hb
         replace BK134 := zk BK134 hb
         replace BK135 := zk BK135 hb
         replace BK136 := zk BK136 hb
         replace BK137 := zk BK137 hb
         replace BK138 := zk BK138 hb
         replace BK139 := zk BK139 hb
         replace BK140 := zk BK140 hb
         replace HB := zb HB hb
         (try clear hb)
         (try clear hb2)
         (try clear hk)
         (try clear hi)
         refine hK.out _ _ ⟨(blk_cell BK133.out 0).trans rfl, (blk_cell BK133.out 1).trans rfl, (blk_cell BK133.out 2).trans rfl, (blk_cell BK132.out 0).trans rfl, (blk_cell BK132.out 1).trans rfl, (blk_cell BK132.out 2).trans rfl, (blk_cell BK134.out 0).trans rfl, (blk_cell BK134.out 1).trans rfl, (blk_cell BK134.out 2).trans rfl, (blk_cell BK134.out 3).trans rfl, (blk_cell BK135.out 0).trans rfl, HS11_, ((HB.out.cell (World.block_lt_of_cell? w _ hw142_0)).trans hw142_0), ((HB.out.cell (World.block_lt_of_cell? w _ hw142_1)).trans hw142_1), ((HB.out.cell (World.block_lt_of_cell? w _ hw142_2)).trans hw142_2), ((HB.out.cell (World.block_lt_of_cell? w _ hw142_3)).trans hw142_3)⟩ (fun hHeld => ?_)
         clear hK K
         refine norm_ (a' := ?_) ?_ ?_
         rotate_left
         ·show Act.put _ (some 51) _ = _
          simp only [Act.put, sA, sB, sC, i64_w, i32_w]
          rfl
         refine pure_ (i := 15) (N := some 53) (v := ?_) (a' := ?_) (bs 17 65535) rfl rfl (any_of HT_.out (by kernel_rfl)) (fun _ _ _ h => h) (Or.inl ⟨by rfl, ?_⟩) ?_ ?_
         rotate_left
         ·intro w'
          go_simp
          with_reducible rfl
         rotate_left
         ·simp only [Act.put, sA, sB, sC, i64_w, i32_w]
          rfl
         refine pure_ (i := 16) (N := some 54) (v := ?_) (a' := ?_) (bs 17 131071) rfl rfl (any_of HT_.out (by kernel_rfl)) (fun _ _ _ h => h) (Or.inl ⟨by rfl, ?_⟩) ?_ ?_
         rotate_left
         ·intro w'
          go_simp
          with_reducible rfl
         rotate_left
         ·simp only [Act.put, sA, sB, sC, i64_w, i32_w]
          rfl
         refine done_ (done_of HT_.out (by kernel_rfl)) ?_
         try go_wp2
         first | go_end0 | ((try simp only [Exit.inBlock, Exit.then]); refine bodyPost_ret (results_none rfl _ _ _) rfl ?_)
         exact ⟨.slice (some ad141) l2_2.length co74, u9101_, by first | rfl | (simp [*] <;> rfl), (by exact zk0 BK132), (by exact zk0 BK133), (by exact zk0 BK134), (by exact zk0 BK135), (by exact zk0 BK136), (by exact zk0 BK137), (by exact zk0 BK138), (by exact zk0 BK139), (by exact zr0 HO_134002), (by (with_reducible repeat (first | apply Kd.R_alloc | apply Kd.R_drewN | apply Kd.R_drew)); exact Kd.R_mono HO_137000.out (fun _ hk => ⟨hk.1, hk.2.1⟩)), by exact zb0 HB⟩
       ·rw [if_neg c27] at H
        exact absurd H (by simp)
      ·rw [if_neg c26] at H
       have c26b0 : ((rd l2_2 (ji23)) == 0) = false := beq_eq_false_iff_ne.mpr c26
       have c26b1 : ((rd l2_2 (ji23)) != 0) = true := bne_iff_ne.mpr c26
       simp only [Option.some.injEq, Prod.mk.injEq] at H
       obtain ⟨rfl, rfl⟩ := H
       obtain ⟨hcz76_0, hcz76_1, hfz76_0, hfz76_1⟩ := zq2 BK140
       obtain ⟨hcz77_0, hcz77_1, hcz77_2, hfz77_0, hfz77_1, hfz77_2⟩ := zq3 BK132
       try go_wp2
       replace HO_134002 := zrd HO_134002
       replace HO_137000 := zrd HO_137000
       replace BK132 := zkd BK132
       replace BK133 := zkd BK133
       replace BK134 := zkd BK134
       replace BK135 := zkd BK135
       replace BK136 := zkd BK136
       replace BK137 := zkd BK137
       replace BK138 := zkd BK138
       replace BK139 := zkd BK139
       replace BK140 := zkd BK140
       replace HB := zbd HB
       obtain ⟨Ao79, co79, eo79⟩ := Kd.R_slice HO_134002.out
       (first | subst eo79 | (injection eo79 with f1_ f2_ f3_; have f4_ := f1_.symm; have f5_ := f3_.symm; clear f1_ f2_ f3_; subst f4_; subst f5_))
       have p141 : 0 ≤ ((ji23) : Int) := of_decide_eq_true (by first | (with_reducible assumption) | assumption)
       have q141 : (ji23) < (l2_2.length : Int) := of_decide_eq_true (by first | (with_reducible assumption) | assumption)
       obtain ⟨ad141, e141, hx141_0⟩ := Kd.at_int (Kd.R_reads' HO_134002.out).2.2 (ji23) p141 q141
       cases e141
       replace p141 := eq_true p141
       replace q141 := eq_true q141
       refine start_ (n := 17) (S := fun w' => w'.cell? ⟨gc2_0, 0, none⟩ = some (.int .i64 a2_0) ∧ w'.cell? ⟨gc2_0, 1, none⟩ = some (.int .i64 a2_1) ∧ w'.cell? ⟨gc2_0, 2, none⟩ = some (.slice (some ad141) l2_2.length co79) ∧ w'.cell? (ad141.add ((ji23)).toNat) = some (.int .i64 (rd l2_2 (ji23)))) (ds := []) (bs 17 0) (by kernel_rfl) rfl rfl ⟨(blk_cell BK133.out 0).trans rfl, (blk_cell BK133.out 1).trans rfl, (blk_cell BK133.out 2).trans rfl, hx141_0⟩ (fun hHeld => ?_); refine with_tabW wand_Flood_1.tab3 wand_Flood_1.bits3 (fun HT_ HW_ => ?_)
       generalize wc.drew = w78 at HO_134002 HO_137000 BK132 BK133 BK134 BK135 BK136 BK137 BK138 BK139 BK140 HB hx141_0 hHeld ⊢
       refine pure_ (i := 0) (N := some 38) (v := ?_) (a' := ?_) (bs 17 1) rfl rfl (any_of HT_.out (by kernel_rfl)) (fun _ _ _ h => h) (Or.inl ⟨by rfl, ?_⟩) ?_ ?_
       rotate_left
       ·intro w'
        go_simp
        with_reducible rfl
       rotate_left
       ·simp only [Act.put, sA, sB, sC, i64_w, i32_w]
        rfl
       refine pure_ (i := 2) (N := some 40) (v := ?_) (a' := ?_) (bs 17 5) rfl rfl (any_of HT_.out (by kernel_rfl)) (fun _ _ _ h => h) (Or.inl ⟨by rfl, ?_⟩) ?_ ?_
       rotate_left
       ·intro w'
        go_simp
        with_reducible rfl
       rotate_left
       ·simp only [Act.put, sA, sB, sC, i64_w, i32_w]
        rfl
       refine take_ (i := 1) (N := some 39) (v := ?_) (a' := ?_) (bs 17 7) rfl rfl (take_ofW HT_.out HW_.out (by kernel_rfl)) (fun _ _ _ h => h) (Or.inl ⟨by rfl, ?_⟩) hHeld ?_ ?_
       rotate_left
       ·rintro w' ⟨s0, s1, s2, s3⟩
        go_simp
        with_reducible rfl
       rotate_left
       ·simp only [Act.put, sA, sB, sC, i64_w, i32_w]
        rfl
       refine pure_ (i := 3) (N := some 41) (v := ?_) (a' := ?_) (bs 17 15) rfl rfl (any_of HT_.out (by kernel_rfl)) (fun _ _ _ h => h) (Or.inl ⟨by rfl, ?_⟩) ?_ ?_
       rotate_left
       ·intro w'
        go_simp
        with_reducible rfl
       rotate_left
       ·simp only [Act.put, sA, sB, sC, i64_w, i32_w]
        rfl
       refine take_ (i := 4) (N := some 42) (v := ?_) (a' := ?_) (bs 17 31) rfl rfl (take_ofW HT_.out HW_.out (by kernel_rfl)) (fun _ _ _ h => h) (Or.inl ⟨by rfl, ?_⟩) hHeld ?_ ?_
       rotate_left
       ·rintro w' ⟨s0, s1, s2, s3⟩
        go_simp
        with_reducible rfl
       rotate_left
       ·simp only [Act.put, sA, sB, sC, i64_w, i32_w]
        rfl
       refine pure_ (i := 5) (N := some 43) (v := ?_) (a' := ?_) (bs 17 63) rfl rfl (any_of HT_.out (by kernel_rfl)) (fun _ _ _ h => h) (Or.inl ⟨by rfl, ?_⟩) ?_ ?_
       rotate_left
       ·intro w'
        go_simp
        with_reducible rfl
       rotate_left
       ·simp only [Act.put, sA, sB, sC, i64_w, i32_w]
        rfl
       refine pure_ (i := 6) (N := some 44) (v := ?_) (a' := ?_) (bs 17 127) rfl rfl (any_of HT_.out (by kernel_rfl)) (fun _ _ _ h => h) (Or.inl ⟨by rfl, ?_⟩) ?_ ?_
       rotate_left
       ·intro w'
        go_simp
        with_reducible rfl
       rotate_left
       ·simp only [Act.put, sA, sB, sC, i64_w, i32_w]
        rfl
       refine pure_ (i := 7) (N := some 45) (v := undef) (a' := ?_) (bs 17 255) rfl rfl (any_of HT_.out (by kernel_rfl)) (fun _ _ _ h => h) (Or.inr ⟨by rfl, rfl⟩) ?_ ?_
       rotate_left
       ·simp only [Act.put, sA, sB, sC, i64_w, i32_w]
        rfl
       refine pure_ (i := 8) (N := some 46) (v := undef) (a' := ?_) (bs 17 511) rfl rfl (any_of HT_.out (by kernel_rfl)) (fun _ _ _ h => h) (Or.inr ⟨by rfl, rfl⟩) ?_ ?_
       rotate_left
       ·simp only [Act.put, sA, sB, sC, i64_w, i32_w]
        rfl
       refine pure_ (i := 9) (N := some 47) (v := undef) (a' := ?_) (bs 17 1023) rfl rfl (any_of HT_.out (by kernel_rfl)) (fun _ _ _ h => h) (Or.inr ⟨by rfl, rfl⟩) ?_ ?_
       rotate_left
       ·simp only [Act.put, sA, sB, sC, i64_w, i32_w]
        rfl
       refine pure_ (i := 10) (N := some 48) (v := undef) (a' := ?_) (bs 17 2047) rfl rfl (any_of HT_.out (by kernel_rfl)) (fun _ _ _ h => h) (Or.inr ⟨by rfl, rfl⟩) ?_ ?_
       rotate_left
       ·simp only [Act.put, sA, sB, sC, i64_w, i32_w]
        rfl
       refine pure_ (i := 11) (N := some 49) (v := undef) (a' := ?_) (bs 17 4095) rfl rfl (any_of HT_.out (by kernel_rfl)) (fun _ _ _ h => h) (Or.inr ⟨by rfl, rfl⟩) ?_ ?_
       rotate_left
       ·simp only [Act.put, sA, sB, sC, i64_w, i32_w]
        rfl
       refine pure_ (i := 12) (N := some 50) (v := undef) (a' := ?_) (bs 17 8191) rfl rfl (any_of HT_.out (by kernel_rfl)) (fun _ _ _ h => h) (Or.inr ⟨by rfl, rfl⟩) ?_ ?_
       rotate_left
       ·simp only [Act.put, sA, sB, sC, i64_w, i32_w]
        rfl
       refine pure_ (i := 13) (N := some 51) (v := undef) (a' := ?_) (bs 17 16383) rfl rfl (any_of HT_.out (by kernel_rfl)) (fun _ _ _ h => h) (Or.inr ⟨by rfl, rfl⟩) ?_ ?_
       rotate_left
       ·simp only [Act.put, sA, sB, sC, i64_w, i32_w]
        rfl
       refine pure_ (i := 14) (N := some 52) (v := undef) (a' := ?_) (bs 17 32767) rfl rfl (any_of HT_.out (by kernel_rfl)) (fun _ _ _ h => h) (Or.inr ⟨by rfl, rfl⟩) ?_ ?_
       rotate_left
       ·simp only [Act.put, sA, sB, sC, i64_w, i32_w]
        rfl
       refine pure_ (i := 15) (N := some 53) (v := undef) (a' := ?_) (bs 17 65535) rfl rfl (any_of HT_.out (by kernel_rfl)) (fun _ _ _ h => h) (Or.inr ⟨by rfl, rfl⟩) ?_ ?_
       rotate_left
       ·simp only [Act.put, sA, sB, sC, i64_w, i32_w]
        rfl
       refine pure_ (i := 16) (N := some 54) (v := ?_) (a' := ?_) (bs 17 131071) rfl rfl (any_of HT_.out (by kernel_rfl)) (fun _ _ _ h => h) (Or.inl ⟨by rfl, ?_⟩) ?_ ?_
       rotate_left
       ·intro w'
        go_simp
        with_reducible rfl
       rotate_left
       ·simp only [Act.put, sA, sB, sC, i64_w, i32_w]
        rfl
       refine done_ (done_of HT_.out (by kernel_rfl)) ?_
       try go_wp2
       first | go_end0 | ((try simp only [Exit.inBlock, Exit.then]); refine bodyPost_ret (results_none rfl _ _ _) rfl ?_)
       exact ⟨.slice (some ad141) l2_2.length co79, u9101_, by first | rfl | (simp [*] <;> rfl), (by exact zk0 BK132), (by exact zk0 BK133), (by exact zk0 BK134), (by exact zk0 BK135), (by exact zk0 BK136), (by exact zk0 BK137), (by exact zk0 BK138), (by exact zk0 BK139), (by exact zr0 HO_134002), (by (with_reducible repeat (first | apply Kd.R_alloc | apply Kd.R_drewN | apply Kd.R_drew)); exact Kd.R_mono HO_137000.out (fun _ hk => ⟨hk.1, hk.2.1⟩)), by exact zb0 HB⟩
     ·rw [if_neg c25] at H
      exact absurd H (by simp)
    ·rw [if_neg c24] at H
     exact absurd H (by simp)

end Go.Proofs.Ytmmncannibnklaa.G
