/- Contracts of functions of the program, each as it is called: what it computes (.f), that it computes no less with more rounds (.mono), and that a call returns just that (.calls). No conditions but those that each contract names. Written by a program of this session (wip/gx.py over the kit's print). -/
import Derived.Test.YtmmncannibnklaaG0
import Derived.Test.YtmmncannibnklaaG1
import Derived.Test.YtmmncannibnklaaG2
namespace Go.Proofs.Ytmmncannibnklaa.G
open Go.RowKit Go.Proofs.YtmmncannibnklaaW.PrintWords Go.Proofs.YtmmncannibnklaaW.PrintLast Go.Proofs.YtmmncannibnklaaW.PrintMore
attribute [local go_sem] max2_int min2_int max_two min_two max_three min_three max_four min_four   -- for this text's walks alone
set_option linter.unusedVariables false
set_option linter.unusedSimpArgs false


/-! ### wand_Flood: function 9 -/
mutual
def wand_Flood.j0 : Nat → Bool → Bool → Int → Int → List (S37) → Int → Int → Int → Option (Int × Int × List Int × Int)
 | 0, _, _, _, _, _, _, _, _ => none
 | k + 1, x3, x50, x149000, x149001, x149002, x150000, x150001, x151000 => if x50 = true then (some (0, 0, ([] : List Int), 2)) else (if 0 ≤ (x149002.length : Int) then (if ((x149002.length : Int) : Int).toNat ≤ 35184372088832 then (if 0 ≤ (wrap64 ((wrap64 (x150001 * x149000)) + x150000)) then (if (wrap64 ((wrap64 (x150001 * x149000)) + x150000)) < (x149002.length : Int) then ((wand_Flood_1.f k x150000 x150001 x149000 x149001 x149002 x149000 x149001 (List.replicate ((x149002.length : Int) : Int).toNat 0) ((rd_T37 x149002 (wrap64 ((wrap64 (x150001 * x149000)) + x150000))).f0) ((rd_T37 x149002 (wrap64 ((wrap64 (x150001 * x149000)) + x150000))).f1) ((rd_T37 x149002 (wrap64 ((wrap64 (x150001 * x149000)) + x150000))).f2) ((rd_T37 x149002 (wrap64 ((wrap64 (x150001 * x149000)) + x150000))).f3) x151000 ([] : List (S26))).bind fun bt161 => (wand_Flood.l0 k x3 x149000 x149001 x149002 x151000 x149000 x149001 bt161.1 ((rd_T37 x149002 (wrap64 ((wrap64 (x150001 * x149000)) + x150000))).f0) ((rd_T37 x149002 (wrap64 ((wrap64 (x150001 * x149000)) + x150000))).f1) ((rd_T37 x149002 (wrap64 ((wrap64 (x150001 * x149000)) + x150000))).f2) ((rd_T37 x149002 (wrap64 ((wrap64 (x150001 * x149000)) + x150000))).f3) bt161.2)) else (none)) else (none)) else (none)) else (none))
def wand_Flood.l0 : Nat → Bool → Int → Int → List (S37) → Int → Int → Int → List Int → Int → Int → Int → Int → List (S26) → Option (Int × Int × List Int × Int)
 | 0, _, _, _, _, _, _, _, _, _, _, _, _, _ => none
 | k + 1, x3, x149000, x149001, x149002, x151000, x158000, x158001, x158002, x160000, x160001, x160002, x160003, x161000 => if (x161000.length : Int) > 0 then (if 0 ≤ (wrap64 ((x161000.length : Int) - 1)) then (if (wrap64 ((x161000.length : Int) - 1)) < (x161000.length : Int) then (if (wrap64 ((x161000.length : Int) - 1)) ≤ (x161000.length : Int) then (wand_Flood.l1 k x3 (-1) x149000 x149001 x149002 x151000 x158000 x158001 x158002 x160000 x160001 x160002 x160003 (x161000.take ((wrap64 ((x161000.length : Int) - 1)) : Int).toNat) ((rd_T26 x161000 (wrap64 ((x161000.length : Int) - 1))).f0) ((rd_T26 x161000 (wrap64 ((x161000.length : Int) - 1))).f1)) else (none)) else (none)) else (none)) else (some (x158000, x158001, x158002, 0))
def wand_Flood.l1 : Nat → Bool → Int → Int → Int → List (S37) → Int → Int → Int → List Int → Int → Int → Int → Int → List (S26) → Int → Int → Option (Int × Int × List Int × Int)
 | 0, _, _, _, _, _, _, _, _, _, _, _, _, _, _, _, _ => none
 | k + 1, x3, x16, x149000, x149001, x149002, x151000, x158000, x158001, x158002, x160000, x160001, x160002, x160003, x161000, x169000, x169001 => if x16 ≤ 1 then (wand_Flood.l2 k x3 x16 (-1) x149000 x149001 x149002 x151000 x158000 x158001 x158002 x160000 x160001 x160002 x160003 x161000 x169000 x169001) else (wand_Flood.l0 k x3 x149000 x149001 x149002 x151000 x158000 x158001 x158002 x160000 x160001 x160002 x160003 x161000)
def wand_Flood.l2 : Nat → Bool → Int → Int → Int → Int → List (S37) → Int → Int → Int → List Int → Int → Int → Int → Int → List (S26) → Int → Int → Option (Int × Int × List Int × Int)
 | 0, _, _, _, _, _, _, _, _, _, _, _, _, _, _, _, _, _ => none
 | k + 1, x3, x16, x17, x149000, x149001, x149002, x151000, x158000, x158001, x158002, x160000, x160001, x160002, x160003, x161000, x169000, x169001 => if x17 ≤ 1 then (if x3 = true then ((wand_Flood_1.f k (wrap64 (x169000 + x17)) (wrap64 (x169001 + x16)) x149000 x149001 x149002 x158000 x158001 x158002 x160000 x160001 x160002 x160003 x151000 x161000).bind fun bt172 => (wand_Flood.l2 k x3 x16 (wrap64 (x17 + 1)) x149000 x149001 x149002 x151000 x158000 x158001 bt172.1 x160000 x160001 x160002 x160003 bt172.2 x169000 x169001)) else (if x17 = 0 then ((wand_Flood_1.f k (wrap64 (x169000 + x17)) (wrap64 (x169001 + x16)) x149000 x149001 x149002 x158000 x158001 x158002 x160000 x160001 x160002 x160003 x151000 x161000).bind fun bt178 => (wand_Flood.l2 k x3 x16 (wrap64 (x17 + 1)) x149000 x149001 x149002 x151000 x158000 x158001 bt178.1 x160000 x160001 x160002 x160003 bt178.2 x169000 x169001)) else (if x16 = 0 then ((wand_Flood_1.f k (wrap64 (x169000 + x17)) (wrap64 (x169001 + x16)) x149000 x149001 x149002 x158000 x158001 x158002 x160000 x160001 x160002 x160003 x151000 x161000).bind fun bt184 => (wand_Flood.l2 k x3 x16 (wrap64 (x17 + 1)) x149000 x149001 x149002 x151000 x158000 x158001 bt184.1 x160000 x160001 x160002 x160003 bt184.2 x169000 x169001)) else (wand_Flood.l2 k x3 x16 (wrap64 (x17 + 1)) x149000 x149001 x149002 x151000 x158000 x158001 x158002 x160000 x160001 x160002 x160003 x161000 x169000 x169001)))) else (wand_Flood.l1 k x3 (wrap64 (x16 + 1)) x149000 x149001 x149002 x151000 x158000 x158001 x158002 x160000 x160001 x160002 x160003 x161000 x169000 x169001)
end
def wand_Flood.f (k : Nat) (a0_0 : Int) (a0_1 : Int) (l0_2 : List (S37)) (a1_0 : Int) (a1_1 : Int) (a2 : Int) (a3 : Bool) : Option (Int × Int × List Int × Int) := (raster_Check.f k a0_0 a0_1 l0_2).bind fun t152 => (if t152 = 0 then (if a1_0 < 0 then (wand_Flood.j0 k a3 true a0_0 a0_1 l0_2 a1_0 a1_1 a2) else (if a1_0 ≥ a0_0 then (wand_Flood.j0 k a3 true a0_0 a0_1 l0_2 a1_0 a1_1 a2) else (if a1_1 < 0 then (wand_Flood.j0 k a3 true a0_0 a0_1 l0_2 a1_0 a1_1 a2) else (if a1_1 ≥ a0_1 then (wand_Flood.j0 k a3 true a0_0 a0_1 l0_2 a1_0 a1_1 a2) else ((wand_isUnit.f a2).bind fun t153 => (wand_Flood.j0 k a3 (!t153) a0_0 a0_1 l0_2 a1_0 a1_1 a2)))))) else (some (0, 0, ([] : List Int), t152)))
theorem wand_Flood.mono_l : ∀ k, (∀ y0 y1 y2 y3 y4 y5 y6 y7, LeO (wand_Flood.j0 k y0 y1 y2 y3 y4 y5 y6 y7) (wand_Flood.j0 (k + 1) y0 y1 y2 y3 y4 y5 y6 y7)) ∧ (∀ y0 y1 y2 y3 y4 y5 y6 y7 y8 y9 y10 y11 y12, LeO (wand_Flood.l0 k y0 y1 y2 y3 y4 y5 y6 y7 y8 y9 y10 y11 y12) (wand_Flood.l0 (k + 1) y0 y1 y2 y3 y4 y5 y6 y7 y8 y9 y10 y11 y12)) ∧ (∀ y0 y1 y2 y3 y4 y5 y6 y7 y8 y9 y10 y11 y12 y13 y14 y15, LeO (wand_Flood.l1 k y0 y1 y2 y3 y4 y5 y6 y7 y8 y9 y10 y11 y12 y13 y14 y15) (wand_Flood.l1 (k + 1) y0 y1 y2 y3 y4 y5 y6 y7 y8 y9 y10 y11 y12 y13 y14 y15)) ∧ (∀ y0 y1 y2 y3 y4 y5 y6 y7 y8 y9 y10 y11 y12 y13 y14 y15 y16, LeO (wand_Flood.l2 k y0 y1 y2 y3 y4 y5 y6 y7 y8 y9 y10 y11 y12 y13 y14 y15 y16) (wand_Flood.l2 (k + 1) y0 y1 y2 y3 y4 y5 y6 y7 y8 y9 y10 y11 y12 y13 y14 y15 y16))
 | 0 => ⟨fun _ _ _ _ _ _ _ _ r h => by simp [wand_Flood.j0] at h, fun _ _ _ _ _ _ _ _ _ _ _ _ _ r h => by simp [wand_Flood.l0] at h, fun _ _ _ _ _ _ _ _ _ _ _ _ _ _ _ _ r h => by simp [wand_Flood.l1] at h, fun _ _ _ _ _ _ _ _ _ _ _ _ _ _ _ _ _ r h => by simp [wand_Flood.l2] at h⟩
 | k + 1 => by
  obtain ⟨ih0, ih1, ih2, ih3⟩ := wand_Flood.mono_l k
  refine ⟨?_, ?_, ?_, ?_⟩
  ·intro y0 y1 y2 y3 y4 y5 y6 y7
   unfold wand_Flood.j0
   repeat' first
   | (with_reducible exact ih0 _ _ _ _ _ _ _ _)
   | (with_reducible exact ih1 _ _ _ _ _ _ _ _ _ _ _ _ _)
   | (with_reducible exact ih2 _ _ _ _ _ _ _ _ _ _ _ _ _ _ _ _)
   | (with_reducible exact ih3 _ _ _ _ _ _ _ _ _ _ _ _ _ _ _ _ _)
   | (with_reducible exact raster_Check.mono _ _ _ _)
   | (with_reducible exact wand_Flood_1.mono _ _ _ _ _ _ _ _ _ _ _ _ _ _ _)
   | (with_reducible exact LeO.refl _)
   | (with_reducible exact LeO.none _)
   | (with_reducible refine LeO.ite ?_ ?_)
   | (with_reducible refine LeO.bind ?_ (fun _ => ?_))
   | exact ih0 _ _ _ _ _ _ _ _
   | exact ih1 _ _ _ _ _ _ _ _ _ _ _ _ _
   | exact ih2 _ _ _ _ _ _ _ _ _ _ _ _ _ _ _ _
   | exact ih3 _ _ _ _ _ _ _ _ _ _ _ _ _ _ _ _ _
   | exact raster_Check.mono _ _ _ _
   | exact wand_Flood_1.mono _ _ _ _ _ _ _ _ _ _ _ _ _ _ _
   | exact LeO.none _
   | refine LeO.ite ?_ ?_
   | refine LeO.bind ?_ (fun _ => ?_)
  ·intro y0 y1 y2 y3 y4 y5 y6 y7 y8 y9 y10 y11 y12
   unfold wand_Flood.l0
   repeat' first
   | (with_reducible exact ih0 _ _ _ _ _ _ _ _)
   | (with_reducible exact ih1 _ _ _ _ _ _ _ _ _ _ _ _ _)
   | (with_reducible exact ih2 _ _ _ _ _ _ _ _ _ _ _ _ _ _ _ _)
   | (with_reducible exact ih3 _ _ _ _ _ _ _ _ _ _ _ _ _ _ _ _ _)
   | (with_reducible exact raster_Check.mono _ _ _ _)
   | (with_reducible exact wand_Flood_1.mono _ _ _ _ _ _ _ _ _ _ _ _ _ _ _)
   | (with_reducible exact LeO.refl _)
   | (with_reducible exact LeO.none _)
   | (with_reducible refine LeO.ite ?_ ?_)
   | (with_reducible refine LeO.bind ?_ (fun _ => ?_))
   | exact ih0 _ _ _ _ _ _ _ _
   | exact ih1 _ _ _ _ _ _ _ _ _ _ _ _ _
   | exact ih2 _ _ _ _ _ _ _ _ _ _ _ _ _ _ _ _
   | exact ih3 _ _ _ _ _ _ _ _ _ _ _ _ _ _ _ _ _
   | exact raster_Check.mono _ _ _ _
   | exact wand_Flood_1.mono _ _ _ _ _ _ _ _ _ _ _ _ _ _ _
   | exact LeO.none _
   | refine LeO.ite ?_ ?_
   | refine LeO.bind ?_ (fun _ => ?_)
  ·intro y0 y1 y2 y3 y4 y5 y6 y7 y8 y9 y10 y11 y12 y13 y14 y15
   unfold wand_Flood.l1
   repeat' first
   | (with_reducible exact ih0 _ _ _ _ _ _ _ _)
   | (with_reducible exact ih1 _ _ _ _ _ _ _ _ _ _ _ _ _)
   | (with_reducible exact ih2 _ _ _ _ _ _ _ _ _ _ _ _ _ _ _ _)
   | (with_reducible exact ih3 _ _ _ _ _ _ _ _ _ _ _ _ _ _ _ _ _)
   | (with_reducible exact raster_Check.mono _ _ _ _)
   | (with_reducible exact wand_Flood_1.mono _ _ _ _ _ _ _ _ _ _ _ _ _ _ _)
   | (with_reducible exact LeO.refl _)
   | (with_reducible exact LeO.none _)
   | (with_reducible refine LeO.ite ?_ ?_)
   | (with_reducible refine LeO.bind ?_ (fun _ => ?_))
   | exact ih0 _ _ _ _ _ _ _ _
   | exact ih1 _ _ _ _ _ _ _ _ _ _ _ _ _
   | exact ih2 _ _ _ _ _ _ _ _ _ _ _ _ _ _ _ _
   | exact ih3 _ _ _ _ _ _ _ _ _ _ _ _ _ _ _ _ _
   | exact raster_Check.mono _ _ _ _
   | exact wand_Flood_1.mono _ _ _ _ _ _ _ _ _ _ _ _ _ _ _
   | exact LeO.none _
   | refine LeO.ite ?_ ?_
   | refine LeO.bind ?_ (fun _ => ?_)
  ·intro y0 y1 y2 y3 y4 y5 y6 y7 y8 y9 y10 y11 y12 y13 y14 y15 y16
   unfold wand_Flood.l2
   repeat' first
   | (with_reducible exact ih0 _ _ _ _ _ _ _ _)
   | (with_reducible exact ih1 _ _ _ _ _ _ _ _ _ _ _ _ _)
   | (with_reducible exact ih2 _ _ _ _ _ _ _ _ _ _ _ _ _ _ _ _)
   | (with_reducible exact ih3 _ _ _ _ _ _ _ _ _ _ _ _ _ _ _ _ _)
   | (with_reducible exact raster_Check.mono _ _ _ _)
   | (with_reducible exact wand_Flood_1.mono _ _ _ _ _ _ _ _ _ _ _ _ _ _ _)
   | (with_reducible exact LeO.refl _)
   | (with_reducible exact LeO.none _)
   | (with_reducible refine LeO.ite ?_ ?_)
   | (with_reducible refine LeO.bind ?_ (fun _ => ?_))
   | exact ih0 _ _ _ _ _ _ _ _
   | exact ih1 _ _ _ _ _ _ _ _ _ _ _ _ _
   | exact ih2 _ _ _ _ _ _ _ _ _ _ _ _ _ _ _ _
   | exact ih3 _ _ _ _ _ _ _ _ _ _ _ _ _ _ _ _ _
   | exact raster_Check.mono _ _ _ _
   | exact wand_Flood_1.mono _ _ _ _ _ _ _ _ _ _ _ _ _ _ _
   | exact LeO.none _
   | refine LeO.ite ?_ ?_
   | refine LeO.bind ?_ (fun _ => ?_)
theorem wand_Flood.mono : ∀ a0 a1 a2 a3 a4 a5 a6 k, LeO (wand_Flood.f k a0 a1 a2 a3 a4 a5 a6) (wand_Flood.f (k + 1) a0 a1 a2 a3 a4 a5 a6) := by
 intro a0 a1 a2 a3 a4 a5 a6 k
 obtain ⟨ih0, ih1, ih2, ih3⟩ := wand_Flood.mono_l k
 unfold wand_Flood.f
 repeat' first
   | (with_reducible exact ih0 _ _ _ _ _ _ _ _)
   | (with_reducible exact ih1 _ _ _ _ _ _ _ _ _ _ _ _ _)
   | (with_reducible exact ih2 _ _ _ _ _ _ _ _ _ _ _ _ _ _ _ _)
   | (with_reducible exact ih3 _ _ _ _ _ _ _ _ _ _ _ _ _ _ _ _ _)
   | (with_reducible exact raster_Check.mono _ _ _ _)
   | (with_reducible exact wand_Flood_1.mono _ _ _ _ _ _ _ _ _ _ _ _ _ _ _)
   | (with_reducible exact LeO.refl _)
   | (with_reducible exact LeO.none _)
   | (with_reducible refine LeO.ite ?_ ?_)
   | (with_reducible refine LeO.bind ?_ (fun _ => ?_))
   | exact ih0 _ _ _ _ _ _ _ _
   | exact ih1 _ _ _ _ _ _ _ _ _ _ _ _ _
   | exact ih2 _ _ _ _ _ _ _ _ _ _ _ _ _ _ _ _
   | exact ih3 _ _ _ _ _ _ _ _ _ _ _ _ _ _ _ _ _
   | exact raster_Check.mono _ _ _ _
   | exact wand_Flood_1.mono _ _ _ _ _ _ _ _ _ _ _ _ _ _ _
   | exact LeO.none _
   | refine LeO.ite ?_ ?_
   | refine LeO.bind ?_ (fun _ => ?_)
def wand_Flood.T6 : Bool × List (List Nat × List Nat) := (true, [([], []), ([0], [0]), ([], []), ([2], [2]), ([], []), ([4], [4]), ([5], [5]), ([6, 6], [6]), ([1, 3, 7], [1, 3, 7]), ([], []), ([9, 8, 0, 1, 2, 3, 4, 5, 6, 7, 8, 9], [8, 9])])
def wand_Flood.B6 : List Nat := [0, 1, 0, 4, 0, 16, 48, 112, 255, 0, 1023]
theorem wand_Flood.tab6 : rtab .any (opsOf Try.f9 6) = wand_Flood.T6 := by kernel_rfl
theorem wand_Flood.bits6 : waitsOk wand_Flood.T6.2 wand_Flood.B6 = true := by kernel_rfl
set_option maxHeartbeats 8000000 in
set_option maxRecDepth 100000 in
theorem wand_Flood.calls (k : Nat) (a0_0 : Int) (a0_1 : Int) (A0_2 : Option Addr) (c0_2 : Nat) (l0_2 : List (S37)) (a1_0 : Int) (a1_1 : Int) (a2 : Int) (a3 : Bool) (r1 : Int) (r2 : Int) (r3 : List Int) (r4 : Int) (w : World) (hr0_2 : Kd.C k37 w A0_2 l0_2.length l0_2) (hc0_2 : l0_2.length ≤ c0_2) (h : wand_Flood.f k a0_0 a0_1 l0_2 a1_0 a1_1 a2 a3 = some (r1, r2, r3, r4)) :
  Calls Try.prog 9 #[.agg #[.int .i64 a0_0, .int .i64 a0_1, .slice A0_2 l0_2.length c0_2], .agg #[.int .i64 a1_0, .int .i64 a1_1], .int .i64 a2, .bool a3] w fun e w' => ∃ v2_ : Value, e = .returned (.tuple #[.agg #[.int .i64 r1, .int .i64 r2, v2_], .int .i64 r4]) ∧ Kd.R (Kd.int .i64) 3 w' w.heap.size (fun _ => True) v2_ r3 ∧ Below w.heap.size w w' := by
 have hu24 := Try.underlying24
 have hu26 := Try.underlying26
 have hu29 := Try.underlying29
 have hu37 := Try.underlying37
 have HR0_2 := Aside0.mk hr0_2
 have HC0_2 := Aside0.mk hc0_2
 clear hr0_2 hc0_2
 have HB := Aside0.mk (Below.refl w.heap.size w)
 have H : ((raster_Check.f k a0_0 a0_1 l0_2).bind fun t152 => (if t152 = 0 then (if a1_0 < 0 then (wand_Flood.j0 k a3 true a0_0 a0_1 l0_2 a1_0 a1_1 a2) else (if a1_0 ≥ a0_0 then (wand_Flood.j0 k a3 true a0_0 a0_1 l0_2 a1_0 a1_1 a2) else (if a1_1 < 0 then (wand_Flood.j0 k a3 true a0_0 a0_1 l0_2 a1_0 a1_1 a2) else (if a1_1 ≥ a0_1 then (wand_Flood.j0 k a3 true a0_0 a0_1 l0_2 a1_0 a1_1 a2) else ((wand_isUnit.f a2).bind fun t153 => (wand_Flood.j0 k a3 (!t153) a0_0 a0_1 l0_2 a1_0 a1_1 a2)))))) else (some (0, 0, ([] : List Int), t152)))) = some (r1, r2, r3, r4) := h
 clear h
 replace H := Option.bind_eq_some_iff.mp H
 obtain ⟨t152, A50, H⟩ := H
 replace H : (if t152 = 0 then (if a1_0 < 0 then (wand_Flood.j0 k a3 true a0_0 a0_1 l0_2 a1_0 a1_1 a2) else (if a1_0 ≥ a0_0 then (wand_Flood.j0 k a3 true a0_0 a0_1 l0_2 a1_0 a1_1 a2) else (if a1_1 < 0 then (wand_Flood.j0 k a3 true a0_0 a0_1 l0_2 a1_0 a1_1 a2) else (if a1_1 ≥ a0_1 then (wand_Flood.j0 k a3 true a0_0 a0_1 l0_2 a1_0 a1_1 a2) else ((wand_isUnit.f a2).bind fun t153 => (wand_Flood.j0 k a3 (!t153) a0_0 a0_1 l0_2 a1_0 a1_1 a2)))))) else (some (0, 0, ([] : List Int), t152))) = some (r1, r2, r3, r4) := H
 have A5 := Aside0.mk A50
 clear A50
 by_cases c6 : t152 = 0
 ·rw [if_pos c6] at H
  have c6b0 : (t152 == 0) = true := beq_iff_eq.mpr c6
  have c6b1 : (t152 != 0) = false := bne_eq_false_iff_eq.mpr c6
  clear c6
  have HC7 := Aside0.mk H
  clear H
  go_enter Try.func9, Try.ntmps9
  go_upto_region 4 with (first | ((with_reducible refine gate_dst (N := 4) rfl ?_); refine box_event ?hg (N := 4) ?hd (cs := #[.int .i64 a0_0, .int .i64 a0_1, .slice A0_2 l0_2.length c0_2]) (t := 24) ?hr ?_; (case hd => rfl); (case hg => rfl); (case hr => first | (go_simp; done) | (go_simp; rfl)); intro gb148 hg w8 hbox hb; have GW148 := zg HB hg; have GE148 := zg HB hg; have n0_ := Aside0.mk (hbox); replace HB := zb HB hb; have BK148 := n0_; clear n0_; clear hb hbox hg) | ((with_reducible refine gate_dst (N := 5) rfl ?_); refine box_event ?hg (N := 5) ?hd (cs := #[.int .i64 a1_0, .int .i64 a1_1]) (t := 26) ?hr ?_; (case hd => rfl); (case hg => rfl); (case hr => first | (go_simp; done) | (go_simp; rfl)); intro gb149 hg w9 hbox hb; have GW149 := zg HB hg; have GE149 := zg HB hg; have NB148_149 := zn BK148 hg; have NB149_148 := zn' BK148 hg; have n0_ := Aside0.mk (hbox); replace BK148 := zk BK148 hb; replace HB := zb HB hb; have BK149 := n0_; clear n0_; clear hb hbox hg) | ((with_reducible refine gate_dst (N := 6) rfl ?_); refine box_event ?hg (N := 6) ?hd (cs := #[.int .i64 a2]) (t := 3) ?hr ?_; (case hd => rfl); (case hg => rfl); (case hr => first | (go_simp; done) | (go_simp; rfl)); intro gb150 hg w10 hbox hb; have GW150 := zg HB hg; have GE150 := zg HB hg; have NB148_150 := zn BK148 hg; have NB150_148 := zn' BK148 hg; have NB149_150 := zn BK149 hg; have NB150_149 := zn' BK149 hg; have n0_ := Aside0.mk (hbox); replace BK148 := zk BK148 hb; replace BK149 := zk BK149 hb; replace HB := zb HB hb; have BK150 := n0_; clear n0_; clear hb hbox hg) | ((with_reducible refine gate_dst (N := 8) rfl ?_); refine box_event ?hg (N := 8) ?hd (cs := #[.int .i64 0, .int .i64 0, .slice none 0 0]) (t := 29) ?hr ?_; (case hd => rfl); (case hg => rfl); (case hr => first | (go_simp; done) | (go_simp; rfl)); intro gb151 hg w11 hbox hb; have GW151 := zg HB hg; have GE151 := zg HB hg; have NB148_151 := zn BK148 hg; have NB151_148 := zn' BK148 hg; have NB149_151 := zn BK149 hg; have NB151_149 := zn' BK149 hg; have NB150_151 := zn BK150 hg; have NB151_150 := zn' BK150 hg; have n0_ := Aside0.mk (hbox); replace BK148 := zk BK148 hb; replace BK149 := zk BK149 hb; replace BK150 := zk BK150 hb; replace HB := zb HB hb; have BK151 := n0_; clear n0_; clear hb hbox hg; obtain ⟨hcz12_0, hcz12_1, hcz12_2, hfz12_0, hfz12_1, hfz12_2⟩ := zq3 BK148) | ((with_reducible refine gate_callee (f := 22) rfl ?_); refine goesL_ (some 19) rfl rfl Try.func22 (by kernel_rfl) rfl #[.agg #[.int .i64 a0_0, .int .i64 a0_1, .slice A0_2 l0_2.length c0_2]] rfl (by (try simp only [List.map_toArray, List.map_cons, List.map_nil]); first | done | rfl | (simp only [List.length_drop, List.length_take]; rfl)) ?_; (with_reducible refine (raster_Check.calls k a0_0 a0_1 _ _ l0_2 t152 _ ?side1 ?side2 A5.out).mono ?_); (case side1 => repeat (first | exact (Kd.C_below HR0_2.out HB.out) | (with_reducible refine Kd.C_alloc ?_ _) | (with_reducible refine Kd.C_drewN ?_ _) | (with_reducible refine Kd.C_drew ?_))); (case side2 => exact HC0_2.out); rintro e w13 ⟨rfl, hb⟩; refine ⟨_, rfl, ?_⟩; replace BK148 := zk BK148 hb; replace BK149 := zk BK149 hb; replace BK150 := zk BK150 hb; replace BK151 := zk BK151 hb; replace HB := zb HB hb; (try clear hb); (try clear hb2); (try clear hk); (try clear hi)))
  (try simp only [Act.put, sA, sB, sC])
  go_cut [50] (fun v50 wc => ∃ (kq : Nat) (x50_6 : Bool), v50 = .bool x50_6 ∧ Aside0 (wand_Flood.j0 kq a3 x50_6 a0_0 a0_1 l0_2 a1_0 a1_1 a2 = some (r1, r2, r3, r4)) ∧ Aside0 (kq ≤ k) ∧ Aside0 (wc.heap[gb148]? = some (.cells #[.int .i64 a0_0, .int .i64 a0_1, (.slice A0_2 l0_2.length c0_2)] 24 (0, 0))) ∧ Aside0 (wc.heap[gb149]? = some (.cells #[.int .i64 a1_0, .int .i64 a1_1] 26 (0, 0))) ∧ Aside0 (wc.heap[gb150]? = some (.cells #[.int .i64 a2] 3 (0, 0))) ∧ Aside0 (wc.heap[gb151]? = some (.cells #[.int .i64 0, .int .i64 0, (.slice none 0 0)] 29 (0, 0))) ∧ Aside0 (Below w.heap.size w wc))
  case first =>
   have H := HC7.out
   clear HC7
   by_cases c14 : a1_0 < 0
   ·rw [if_pos c14] at H
    have c14b0 : decide (a1_0 < 0) = true := decide_eq_true c14
    clear c14
    (first | rw [c14b0] | (simp only [i64_w, i32_w]; rw [c14b0]) | skip)
    have H' := Aside0.mk H
    clear H
    obtain ⟨hcz15_0, hcz15_1, hfz15_0, hfz15_1⟩ := zq2 BK149
    go_wp2
    go_meet
    case rel => exact ⟨_, (true), (by first | rfl | (simp; done) | (simp [*]; done)), H', ⟨by first | omega | exact Nat.le_refl _⟩, ⟨by exact zk0 BK148⟩, ⟨by exact zk0 BK149⟩, ⟨by exact zk0 BK150⟩, ⟨by exact zk0 BK151⟩, ⟨by exact zb0 HB⟩⟩
   ·rw [if_neg c14] at H
    have c14b0 : decide (a1_0 < 0) = false := decide_eq_false c14
    clear c14
    (first | rw [c14b0] | (simp only [i64_w, i32_w]; rw [c14b0]) | skip)
    by_cases c16 : a1_0 ≥ a0_0
    ·rw [if_pos c16] at H
     have c16b0 : decide (a0_0 ≤ a1_0) = true := decide_eq_true c16
     clear c16
     have H' := Aside0.mk H
     clear H
     obtain ⟨hcz17_0, hcz17_1, hfz17_0, hfz17_1⟩ := zq2 BK149
     obtain ⟨hcz18_0, hcz18_1, hcz18_2, hfz18_0, hfz18_1, hfz18_2⟩ := zq3 BK148
     go_wp2
     go_meet
     case rel => exact ⟨_, (true), (by first | rfl | (simp; done) | (simp [*]; done)), H', ⟨by first | omega | exact Nat.le_refl _⟩, ⟨by exact zk0 BK148⟩, ⟨by exact zk0 BK149⟩, ⟨by exact zk0 BK150⟩, ⟨by exact zk0 BK151⟩, ⟨by exact zb0 HB⟩⟩
    ·rw [if_neg c16] at H
     have c16b0 : decide (a0_0 ≤ a1_0) = false := decide_eq_false c16
     clear c16
     by_cases c19 : a1_1 < 0
     ·rw [if_pos c19] at H
      have c19b0 : decide (a1_1 < 0) = true := decide_eq_true c19
      clear c19
      have H' := Aside0.mk H
      clear H
      obtain ⟨hcz20_0, hcz20_1, hfz20_0, hfz20_1⟩ := zq2 BK149
      obtain ⟨hcz21_0, hcz21_1, hcz21_2, hfz21_0, hfz21_1, hfz21_2⟩ := zq3 BK148
      go_wp2
      go_meet
      case rel => exact ⟨_, (true), (by first | rfl | (simp; done) | (simp [*]; done)), H', ⟨by first | omega | exact Nat.le_refl _⟩, ⟨by exact zk0 BK148⟩, ⟨by exact zk0 BK149⟩, ⟨by exact zk0 BK150⟩, ⟨by exact zk0 BK151⟩, ⟨by exact zb0 HB⟩⟩
     ·rw [if_neg c19] at H
      have c19b0 : decide (a1_1 < 0) = false := decide_eq_false c19
      clear c19
      by_cases c22 : a1_1 ≥ a0_1
      ·rw [if_pos c22] at H
       have c22b0 : decide (a0_1 ≤ a1_1) = true := decide_eq_true c22
       clear c22
       have H' := Aside0.mk H
       clear H
       obtain ⟨hcz23_0, hcz23_1, hfz23_0, hfz23_1⟩ := zq2 BK149
       obtain ⟨hcz24_0, hcz24_1, hcz24_2, hfz24_0, hfz24_1, hfz24_2⟩ := zq3 BK148
       go_wp2
       go_meet
       case rel => exact ⟨_, (true), (by first | rfl | (simp; done) | (simp [*]; done)), H', ⟨by first | omega | exact Nat.le_refl _⟩, ⟨by exact zk0 BK148⟩, ⟨by exact zk0 BK149⟩, ⟨by exact zk0 BK150⟩, ⟨by exact zk0 BK151⟩, ⟨by exact zb0 HB⟩⟩
      ·rw [if_neg c22] at H
       have c22b0 : decide (a0_1 ≤ a1_1) = false := decide_eq_false c22
       clear c22
       replace H := Option.bind_eq_some_iff.mp H
       obtain ⟨t153, A250, H⟩ := H
       replace H : (wand_Flood.j0 k a3 (!t153) a0_0 a0_1 l0_2 a1_0 a1_1 a2) = some (r1, r2, r3, r4) := H
       have A25 := Aside0.mk A250
       clear A250
       have H' := Aside0.mk H
       clear H
       obtain ⟨hcz26_0, hcz26_1, hfz26_0, hfz26_1⟩ := zq2 BK149
       obtain ⟨hcz27_0, hcz27_1, hcz27_2, hfz27_0, hfz27_1, hfz27_2⟩ := zq3 BK148
       obtain ⟨hcz28_0, hfz28_0⟩ := zq1 BK150
       go_wp2_with (first | (go_at_call 23; (with_reducible refine (wand_isUnit.calls a2 t153 _ A25.out).mono ?_); rintro e w' ⟨rfl, ⟨nd, rfl⟩⟩))
       go_meet
       case rel => exact ⟨_, (!t153), (by first | rfl | (simp; done) | (simp [*]; done)), H', ⟨by first | omega | exact Nat.le_refl _⟩, ⟨by exact zk0 BK148⟩, ⟨by exact zk0 BK149⟩, ⟨by exact zk0 BK150⟩, ⟨by exact zk0 BK151⟩, ⟨by exact zb0 HB⟩⟩
  case rest =>
   clear HC7
   try clear c1
   try clear q1
   try clear c2
   try clear p2
   try clear q2
   try clear q3
   try clear c6
   try clear c6b0
   try clear c6b1
   try clear c9
   try clear c14
   try clear c14b0
   try clear c16
   try clear c16b0
   try clear c19
   try clear c19b0
   try clear c22
   try clear c22b0
   try clear hcz12_0
   try clear hcz12_1
   try clear hcz12_2
   try clear hcz15_0
   try clear hcz15_1
   try clear hcz17_0
   try clear hcz17_1
   try clear hcz18_0
   try clear hcz18_1
   try clear hcz18_2
   try clear hcz20_0
   try clear hcz20_1
   try clear hcz21_0
   try clear hcz21_1
   try clear hcz21_2
   try clear hcz23_0
   try clear hcz23_1
   try clear hcz24_0
   try clear hcz24_1
   try clear hcz24_2
   try clear hcz26_0
   try clear hcz26_1
   try clear hcz27_0
   try clear hcz27_1
   try clear hcz27_2
   try clear hcz28_0
   try clear hfz12_0
   try clear hfz12_1
   try clear hfz12_2
   try clear hfz15_0
   try clear hfz15_1
   try clear hfz17_0
   try clear hfz17_1
   try clear hfz18_0
   try clear hfz18_1
   try clear hfz18_2
   try clear hfz20_0
   try clear hfz20_1
   try clear hfz21_0
   try clear hfz21_1
   try clear hfz21_2
   try clear hfz23_0
   try clear hfz23_1
   try clear hfz24_0
   try clear hfz24_1
   try clear hfz24_2
   try clear hfz26_0
   try clear hfz26_1
   try clear hfz27_0
   try clear hfz27_1
   try clear hfz27_2
   try clear hfz28_0
   obtain ⟨kq, x50_6, rfl, HA, HJ6, BK148, BK149, BK150, BK151, HB⟩ := hcut
   cases kq with
   | zero => exact absurd HA.out (by simp [wand_Flood.j0])
   | succ kj6 =>
    have H := HA.out
    clear HA
    simp only [wand_Flood.j0] at H
    by_cases c29 : x50_6 = true
    ·subst c29
     have H1 : (some (0, 0, ([] : List Int), 2)) = some (r1, r2, r3, r4) := by rw [if_pos rfl] at H; exact H
     clear H
     have H := H1
     clear H1
     simp only [Option.some.injEq, Prod.mk.injEq] at H
     obtain ⟨rfl, rfl, rfl, rfl⟩ := H
     have hnb30 := NB151_148.out
     have hnc30 := NB148_151.out
     have hnb31 := NB151_149.out
     have hnc31 := NB149_151.out
     have hnb32 := NB151_150.out
     have hnc32 := NB150_151.out
     obtain ⟨hcz33_0, hcz33_1, hcz33_2, hfz33_0, hfz33_1, hfz33_2⟩ := zq3 BK151
     go_wp2
     refine bodyPost_ret (results_ct rfl _ _ gb151 29 #[.int .i64 0, .int .i64 0, .slice none 0 0] (0, 0) _ rfl (by exact zp BK151 rfl) Try.underlying29 rfl (by kernel_rfl)) rfl ?_
     exact ⟨_, by first | rfl | (simp [errW_none, errW_some] <;> rfl) | (simp [*, errW_none, errW_some] <;> rfl), by first | exact Kd.R_nil _ _ _ _ _ | exact Kd.N_nil _ _ _ _ _ | exact Kd.V_nil _ _ _ _ _ | exact Kd.Q_nil _ _ _ _ _ | exact Kd.S_nil _ _ _ _ _, by exact zbo HB GE151⟩
    ·replace c29 := Bool.eq_false_iff.mpr c29
     subst c29
     have H1 : (if 0 ≤ (l0_2.length : Int) then (if ((l0_2.length : Int) : Int).toNat ≤ 35184372088832 then (if 0 ≤ (wrap64 ((wrap64 (a1_1 * a0_0)) + a1_0)) then (if (wrap64 ((wrap64 (a1_1 * a0_0)) + a1_0)) < (l0_2.length : Int) then ((wand_Flood_1.f kj6 a1_0 a1_1 a0_0 a0_1 l0_2 a0_0 a0_1 (List.replicate ((l0_2.length : Int) : Int).toNat 0) ((rd_T37 l0_2 (wrap64 ((wrap64 (a1_1 * a0_0)) + a1_0))).f0) ((rd_T37 l0_2 (wrap64 ((wrap64 (a1_1 * a0_0)) + a1_0))).f1) ((rd_T37 l0_2 (wrap64 ((wrap64 (a1_1 * a0_0)) + a1_0))).f2) ((rd_T37 l0_2 (wrap64 ((wrap64 (a1_1 * a0_0)) + a1_0))).f3) a2 ([] : List (S26))).bind fun bt161 => (wand_Flood.l0 kj6 a3 a0_0 a0_1 l0_2 a2 a0_0 a0_1 bt161.1 ((rd_T37 l0_2 (wrap64 ((wrap64 (a1_1 * a0_0)) + a1_0))).f0) ((rd_T37 l0_2 (wrap64 ((wrap64 (a1_1 * a0_0)) + a1_0))).f1) ((rd_T37 l0_2 (wrap64 ((wrap64 (a1_1 * a0_0)) + a1_0))).f2) ((rd_T37 l0_2 (wrap64 ((wrap64 (a1_1 * a0_0)) + a1_0))).f3) bt161.2)) else (none)) else (none)) else (none)) else (none)) = some (r1, r2, r3, r4) := by rw [if_neg (show ¬ (false = true) by decide)] at H; exact H
     clear H
     have H := H1
     clear H1
     by_cases c34 : 0 ≤ (l0_2.length : Int)
     ·rw [if_pos c34] at H
      have c34b0 := eq_true c34
      have c34b1 : decide (0 ≤ (l0_2.length : Int)) = true := decide_eq_true c34
      clear c34
      by_cases c35 : ((l0_2.length : Int) : Int).toNat ≤ 35184372088832
      ·rw [if_pos c35] at H
       have c35b0 := eq_true c35
       have c35b1 : decide (((l0_2.length : Int) : Int).toNat ≤ 35184372088832) = true := decide_eq_true c35
       clear c35
       obtain ⟨y154, hy154⟩ : ∃ y_ : List Int, y_ = (List.replicate ((l0_2.length : Int) : Int).toNat 0) := ⟨_, rfl⟩
       replace H : (if 0 ≤ (wrap64 ((wrap64 (a1_1 * a0_0)) + a1_0)) then (if (wrap64 ((wrap64 (a1_1 * a0_0)) + a1_0)) < (l0_2.length : Int) then ((wand_Flood_1.f kj6 a1_0 a1_1 a0_0 a0_1 l0_2 a0_0 a0_1 y154 ((rd_T37 l0_2 (wrap64 ((wrap64 (a1_1 * a0_0)) + a1_0))).f0) ((rd_T37 l0_2 (wrap64 ((wrap64 (a1_1 * a0_0)) + a1_0))).f1) ((rd_T37 l0_2 (wrap64 ((wrap64 (a1_1 * a0_0)) + a1_0))).f2) ((rd_T37 l0_2 (wrap64 ((wrap64 (a1_1 * a0_0)) + a1_0))).f3) a2 ([] : List (S26))).bind fun bt161 => (wand_Flood.l0 kj6 a3 a0_0 a0_1 l0_2 a2 a0_0 a0_1 bt161.1 ((rd_T37 l0_2 (wrap64 ((wrap64 (a1_1 * a0_0)) + a1_0))).f0) ((rd_T37 l0_2 (wrap64 ((wrap64 (a1_1 * a0_0)) + a1_0))).f1) ((rd_T37 l0_2 (wrap64 ((wrap64 (a1_1 * a0_0)) + a1_0))).f2) ((rd_T37 l0_2 (wrap64 ((wrap64 (a1_1 * a0_0)) + a1_0))).f3) bt161.2)) else (none)) else (none)) = some (r1, r2, r3, r4) := by first | (rw [hy154]; with_reducible exact H) | (have H2_ := (Option.bind_some _ _).symm.trans H; rw [hy154]; with_reducible exact H2_) | (have H2_ := (Option.bind_some _ _).symm.trans H; with_reducible exact H2_) | with_reducible exact H | (rw [hy154]; exact H) | exact H
       have Ny154 := Aside0.mk hy154
       clear hy154
       obtain ⟨ji36, hji36⟩ : ∃ j_ : Int, (wrap64 ((wrap64 (a1_1 * a0_0)) + a1_0)) = j_ := ⟨_, rfl⟩
       replace H : (if 0 ≤ (ji36) then (if (ji36) < (l0_2.length : Int) then ((wand_Flood_1.f kj6 a1_0 a1_1 a0_0 a0_1 l0_2 a0_0 a0_1 y154 ((rd_T37 l0_2 (ji36)).f0) ((rd_T37 l0_2 (ji36)).f1) ((rd_T37 l0_2 (ji36)).f2) ((rd_T37 l0_2 (ji36)).f3) a2 ([] : List (S26))).bind fun bt161 => (wand_Flood.l0 kj6 a3 a0_0 a0_1 l0_2 a2 a0_0 a0_1 bt161.1 ((rd_T37 l0_2 (ji36)).f0) ((rd_T37 l0_2 (ji36)).f1) ((rd_T37 l0_2 (ji36)).f2) ((rd_T37 l0_2 (ji36)).f3) bt161.2)) else (none)) else (none)) = some (r1, r2, r3, r4) := by first | (rw [hji36] at H; exact H) | (simp only [hji36] at H ⊢; exact H)
       have hji36w : (IntKind.i64.wrap ((wrap64 (a1_1 * a0_0)) + a1_0)) = ji36 := (i64_w _).trans hji36
       by_cases c37 : 0 ≤ (ji36)
       ·rw [if_pos c37] at H
        have c37b0 : decide (0 ≤ (ji36)) = true := decide_eq_true c37
        clear c37
        by_cases c38 : (ji36) < (l0_2.length : Int)
        ·rw [if_pos c38] at H
         have c38b0 : decide ((ji36) < (l0_2.length : Int)) = true := decide_eq_true c38
         clear c38
         replace H := Option.bind_eq_some_iff.mp H
         obtain ⟨⟨t161, t164⟩, A390, H⟩ := H
         replace H : (wand_Flood.l0 kj6 a3 a0_0 a0_1 l0_2 a2 a0_0 a0_1 t161 ((rd_T37 l0_2 (ji36)).f0) ((rd_T37 l0_2 (ji36)).f1) ((rd_T37 l0_2 (ji36)).f2) ((rd_T37 l0_2 (ji36)).f3) t164) = some (r1, r2, r3, r4) := H
         have A39 := Aside0.mk A390
         clear A390
         have H' := Aside0.mk H
         clear H
         try go_wp2
         replace BK148 := zkd BK148
         replace BK149 := zkd BK149
         replace BK150 := zkd BK150
         replace BK151 := zkd BK151
         replace HB := zbd HB
         refine start_ (n := 11) (S := fun w' => w'.cell? ⟨gb148, 0, none⟩ = some (.int .i64 a0_0) ∧ w'.cell? ⟨gb148, 1, none⟩ = some (.int .i64 a0_1) ∧ w'.cell? ⟨gb148, 2, none⟩ = some (.slice A0_2 l0_2.length c0_2)) (ds := []) (bs 11 0) (by kernel_rfl) rfl rfl ⟨(blk_cell BK148.out 0).trans rfl, (blk_cell BK148.out 1).trans rfl, (blk_cell BK148.out 2).trans rfl⟩ (fun hHeld => ?_); refine with_tabW wand_Flood.tab6 wand_Flood.bits6 (fun HT_ HW_ => ?_)
         generalize wc.drew = w40 at BK148 BK149 BK150 BK151 HB hHeld ⊢
         refine pure_ (i := 0) (N := some 52) (v := ?_) (a' := ?_) (bs 11 1) rfl rfl (any_of HT_.out (by kernel_rfl)) (fun _ _ _ h => h) (Or.inl ⟨by rfl, ?_⟩) ?_ ?_
         rotate_left
         ·intro w'
          go_simp
          with_reducible rfl
         rotate_left
         ·simp only [Act.put, sA, sB, sC, i64_w, i32_w]
          rfl
         refine pure_ (i := 2) (N := some 54) (v := ?_) (a' := ?_) (bs 11 5) rfl rfl (any_of HT_.out (by kernel_rfl)) (fun _ _ _ h => h) (Or.inl ⟨by rfl, ?_⟩) ?_ ?_
         rotate_left
         ·intro w'
          go_simp
          with_reducible rfl
         rotate_left
         ·simp only [Act.put, sA, sB, sC, i64_w, i32_w]
          rfl
         refine pure_ (i := 4) (N := some 56) (v := ?_) (a' := ?_) (bs 11 21) rfl rfl (any_of HT_.out (by kernel_rfl)) (fun _ _ _ h => h) (Or.inl ⟨by rfl, ?_⟩) ?_ ?_
         rotate_left
         ·intro w'
          go_simp
          with_reducible rfl
         rotate_left
         ·simp only [Act.put, sA, sB, sC, i64_w, i32_w]
          rfl
         refine take_ (i := 1) (N := some 53) (v := ?_) (a' := ?_) (bs 11 23) rfl rfl (take_ofW HT_.out HW_.out (by kernel_rfl)) (fun _ _ _ h => h) (Or.inl ⟨by rfl, ?_⟩) hHeld ?_ ?_
         rotate_left
         ·rintro w' ⟨s0, s1, s2⟩
          go_simp
          with_reducible rfl
         rotate_left
         ·simp only [Act.put, sA, sB, sC, i64_w, i32_w]
          rfl
         refine take_ (i := 3) (N := some 55) (v := ?_) (a' := ?_) (bs 11 31) rfl rfl (take_ofW HT_.out HW_.out (by kernel_rfl)) (fun _ _ _ h => h) (Or.inl ⟨by rfl, ?_⟩) hHeld ?_ ?_
         rotate_left
         ·rintro w' ⟨s0, s1, s2⟩
          go_simp
          with_reducible rfl
         rotate_left
         ·simp only [Act.put, sA, sB, sC, i64_w, i32_w]
          rfl
         refine take_ (i := 5) (N := some 57) (v := ?_) (a' := ?_) (bs 11 63) rfl rfl (take_ofW HT_.out HW_.out (by kernel_rfl)) (fun _ _ _ h => h) (Or.inl ⟨by rfl, ?_⟩) hHeld ?_ ?_
         rotate_left
         ·rintro w' ⟨s0, s1, s2⟩
          go_simp
          with_reducible rfl
         rotate_left
         ·simp only [Act.put, sA, sB, sC, i64_w, i32_w]
          rfl
         refine pure_ (i := 6) (N := some 58) (v := ?_) (a' := ?_) (bs 11 127) rfl rfl (any_of HT_.out (by kernel_rfl)) (fun _ _ _ h => h) (Or.inl ⟨by rfl, ?_⟩) ?_ ?_
         rotate_left
         ·intro w'
          go_simp
          with_reducible rfl
         rotate_left
         ·simp only [Act.put, sA, sB, sC, i64_w, i32_w]
          rfl
         refine join_ (σ := Value × Nat) 1 (bs 11 1023) (fun s_ => [(59, s_.1), (11, .pointer (some ⟨s_.2, 0, none⟩)), (60, .agg #[.int .i64 a0_0, .int .i64 a0_1, s_.1])]) (fun s_ w' => (w'.cell? ⟨gb148, 0, none⟩ = some (.int .i64 a0_0) ∧ w'.cell? ⟨gb148, 1, none⟩ = some (.int .i64 a0_1) ∧ w'.cell? ⟨gb148, 2, none⟩ = some (.slice A0_2 l0_2.length c0_2)) ∧ (Kd.R (Kd.int .i64) 3 w' w.heap.size (fun k_ => k_ ≠ gb150) s_.1 y154) ∧ (w'.heap[gb148]? = some (.cells #[.int .i64 a0_0, .int .i64 a0_1, .slice A0_2 l0_2.length c0_2] 24 (0, 0))) ∧ (w'.heap[gb149]? = some (.cells #[.int .i64 a1_0, .int .i64 a1_1] 26 (0, 0))) ∧ (w'.heap[gb150]? = some (.cells #[.int .i64 a2] 3 (0, 0))) ∧ (w'.heap[gb151]? = some (.cells #[.int .i64 0, .int .i64 0, .slice none 0 0] 29 (0, 0))) ∧ (w'.heap[s_.2]? = some (.cells #[.int .i64 0, .int .i64 0, .slice none 0 0] 29 (0, 0))) ∧ (w.heap.size ≤ s_.2) ∧ (w.heap.size ≤ s_.2) ∧ (gb148 ≠ s_.2) ∧ (s_.2 ≠ gb148) ∧ (gb149 ≠ s_.2) ∧ (s_.2 ≠ gb149) ∧ (gb150 ≠ s_.2) ∧ (s_.2 ≠ gb150) ∧ (gb151 ≠ s_.2) ∧ (s_.2 ≠ gb151) ∧ (Below w.heap.size w w')) ?_ ?_
         rotate_left
         ·intro hCont
          refine two_ (i := 7) (j := 9) (Ni := some 59) (Nj := some 11) (bs 11 255) (bs 11 639) rfl rfl rfl rfl (two_of HT_.out (by kernel_rfl)) (by decide) (by decide) (fun K hK => ?_) (fun K hK => ?_)
          ·skip
           refine Kd.R_make_step (Kd.int .i64) _ 3 (by rfl) (N := 59) rfl 27 _ _ rfl (l0_2.length : Int) rfl rfl Try.underlying27 (.int .i64 0) 8 info3 rfl (by decide) (by omega) 0 (ok := fun _ => True) (okp := fun _ => True) rfl (fun _ hk => hk) trivial (of_decide_eq_true (by first | (with_reducible assumption) | assumption)) (Nat.le_trans (Nat.mul_le_mul_right _ (of_decide_eq_true (by first | (with_reducible assumption) | assumption) : (l0_2.length : Int).toNat ≤ 35184372088832)) (by omega)) (Below.refl _ _) (Nat.le_refl _) ?_
           intro v155 w41 ho42 hb hg_ hnew_
           clear hg_ hnew_
           (first | rw [← Ny154.out] at ho42 | (simp only [Int.reduceToNat] at ho42; rw [← Ny154.out] at ho42))
           have n0_ := Aside0.mk (Kd.R_lower (Kd.R_newB ho42 (zk0 BK150)) (below_size (by exact zb0 HB)))
           replace BK148 := zk BK148 hb
           replace BK149 := zk BK149 hb
           replace BK150 := zk BK150 hb
           replace BK151 := zk BK151 hb
           replace HB := zb HB hb
           have HO156 := n0_
           clear n0_
           clear hb ho42
           obtain ⟨Ao43, co43, eo43⟩ := Kd.R_slice HO156.out
           (first | subst eo43 | (injection eo43 with f1_ f2_ f3_; have f4_ := f1_.symm; have f5_ := f3_.symm; clear f1_ f2_ f3_; subst f4_; subst f5_))
           refine hK.out _ _ ⟨(blk_cell BK148.out 0).trans rfl, (blk_cell BK148.out 1).trans rfl, (blk_cell BK148.out 2).trans rfl⟩ (fun hHeld => ?_)
           clear hK K
           refine norm_ (a' := ?_) ?_ ?_
           rotate_left
           ·show Act.put _ (some 59) _ = _
            simp only [Act.put, sA, sB, sC, i64_w, i32_w]
            rfl
           refine pure_ (i := 8) (N := some 60) (v := ?_) (a' := ?_) (bs 11 511) rfl rfl (any_of HT_.out (by kernel_rfl)) (fun _ _ _ h => h) (Or.inl ⟨by rfl, ?_⟩) ?_ ?_
           rotate_left
           ·intro w'
            go_simp
            with_reducible rfl
           rotate_left
           ·simp only [Act.put, sA, sB, sC, i64_w, i32_w]
            rfl
           refine one_ (i := 9) (N := some 11) (bs 11 1023) rfl rfl (one_of HT_.out (by kernel_rfl)) (by decide) (fun K hK => ?_)
           refine box_step ?hg (N := 11) ?hd (cs := #[.int .i64 0, .int .i64 0, .slice none 0 0]) (t := 29) ?hr ?_; (case hd => rfl); (case hg => rfl); (case hr => first | (go_simp; done) | (go_simp; rfl))
           intro gb157 hg w44 hbox hb
           have GW157 := zg HB hg
           have GE157 := zg HB hg
           have NB148_157 := zn BK148 hg
           have NB157_148 := zn' BK148 hg
           have NB149_157 := zn BK149 hg
           have NB157_149 := zn' BK149 hg
           have NB150_157 := zn BK150 hg
           have NB157_150 := zn' BK150 hg
           have NB151_157 := zn BK151 hg
           have NB157_151 := zn' BK151 hg
           have n0_ := Aside0.mk (hbox)
           replace HO156 := zr HO156 hb
           replace BK148 := zk BK148 hb
           replace BK149 := zk BK149 hb
           replace BK150 := zk BK150 hb
           replace BK151 := zk BK151 hb
           replace HB := zb HB hb
           have BK157 := n0_
           clear n0_
           clear hb hbox hg
           refine hK.out _ _ ⟨(blk_cell BK148.out 0).trans rfl, (blk_cell BK148.out 1).trans rfl, (blk_cell BK148.out 2).trans rfl⟩ (fun hHeld => ?_)
           clear hK K
           refine norm_ (a' := ?_) ?_ ?_
           rotate_left
           ·show Act.put _ (some 11) _ = _
            simp only [Act.put, sA, sB, sC, i64_w, i32_w]
            rfl
           exact norm_ (by simp only [putAll, Act.put, sA, sB, sC]) (hCont (.slice Ao43 y154.length co43, gb157) _ ⟨hHeld, (by (with_reducible repeat (first | apply Kd.R_alloc | apply Kd.R_drewN | apply Kd.R_drew)); exact Kd.R_mono HO156.out (fun _ hk => hk.2)), (by exact zk0 BK148), (by exact zk0 BK149), (by exact zk0 BK150), (by exact zk0 BK151), (by exact zk0 BK157), GW157.out, GE157.out, NB148_157.out, NB157_148.out, NB149_157.out, NB157_149.out, NB150_157.out, NB157_150.out, NB151_157.out, NB157_151.out, (by exact zb0 HB)⟩)
          ·skip
           refine box_step ?hg (N := 11) ?hd (cs := #[.int .i64 0, .int .i64 0, .slice none 0 0]) (t := 29) ?hr ?_; (case hd => rfl); (case hg => rfl); (case hr => first | (go_simp; done) | (go_simp; rfl))
           intro gb157 hg w41 hbox hb
           have GW157 := zg HB hg
           have GE157 := zg HB hg
           have NB148_157 := zn BK148 hg
           have NB157_148 := zn' BK148 hg
           have NB149_157 := zn BK149 hg
           have NB157_149 := zn' BK149 hg
           have NB150_157 := zn BK150 hg
           have NB157_150 := zn' BK150 hg
           have NB151_157 := zn BK151 hg
           have NB157_151 := zn' BK151 hg
           have n0_ := Aside0.mk (hbox)
           replace BK148 := zk BK148 hb
           replace BK149 := zk BK149 hb
           replace BK150 := zk BK150 hb
           replace BK151 := zk BK151 hb
           replace HB := zb HB hb
           have BK157 := n0_
           clear n0_
           clear hb hbox hg
           refine hK.out _ _ ⟨(blk_cell BK148.out 0).trans rfl, (blk_cell BK148.out 1).trans rfl, (blk_cell BK148.out 2).trans rfl⟩ (fun hHeld => ?_)
           clear hK K
           refine norm_ (a' := ?_) ?_ ?_
           rotate_left
           ·show Act.put _ (some 11) _ = _
            simp only [Act.put, sA, sB, sC, i64_w, i32_w]
            rfl
           refine one_ (i := 7) (N := some 59) (bs 11 767) rfl rfl (one_of HT_.out (by kernel_rfl)) (by decide) (fun K hK => ?_)
           refine Kd.R_make_step (Kd.int .i64) _ 3 (by rfl) (N := 59) rfl 27 _ _ rfl (l0_2.length : Int) rfl rfl Try.underlying27 (.int .i64 0) 8 info3 rfl (by decide) (by omega) 0 (ok := fun _ => True) (okp := fun _ => True) rfl (fun _ hk => hk) trivial (of_decide_eq_true (by first | (with_reducible assumption) | assumption)) (Nat.le_trans (Nat.mul_le_mul_right _ (of_decide_eq_true (by first | (with_reducible assumption) | assumption) : (l0_2.length : Int).toNat ≤ 35184372088832)) (by omega)) (Below.refl _ _) (Nat.le_refl _) ?_
           intro v155 w42 ho43 hb hg_ hnew_
           clear hg_ hnew_
           (first | rw [← Ny154.out] at ho43 | (simp only [Int.reduceToNat] at ho43; rw [← Ny154.out] at ho43))
           have n0_ := Aside0.mk (Kd.R_lower (Kd.R_newB ho43 (zk0 BK150)) (below_size (by exact zb0 HB)))
           replace BK148 := zk BK148 hb
           replace BK149 := zk BK149 hb
           replace BK150 := zk BK150 hb
           replace BK151 := zk BK151 hb
           replace BK157 := zk BK157 hb
           replace HB := zb HB hb
           have HO156 := n0_
           clear n0_
           clear hb ho43
           obtain ⟨Ao44, co44, eo44⟩ := Kd.R_slice HO156.out
           (first | subst eo44 | (injection eo44 with f1_ f2_ f3_; have f4_ := f1_.symm; have f5_ := f3_.symm; clear f1_ f2_ f3_; subst f4_; subst f5_))
           refine hK.out _ _ ⟨(blk_cell BK148.out 0).trans rfl, (blk_cell BK148.out 1).trans rfl, (blk_cell BK148.out 2).trans rfl⟩ (fun hHeld => ?_)
           clear hK K
           refine norm_ (a' := ?_) ?_ ?_
           rotate_left
           ·show Act.put _ (some 59) _ = _
            simp only [Act.put, sA, sB, sC, i64_w, i32_w]
            rfl
           refine pure_ (i := 8) (N := some 60) (v := ?_) (a' := ?_) (bs 11 1023) rfl rfl (any_of HT_.out (by kernel_rfl)) (fun _ _ _ h => h) (Or.inl ⟨by rfl, ?_⟩) ?_ ?_
           rotate_left
           ·intro w'
            go_simp
            with_reducible rfl
           rotate_left
           ·simp only [Act.put, sA, sB, sC, i64_w, i32_w]
            rfl
           exact norm_ (by simp only [putAll, Act.put, sA, sB, sC]) (hCont (.slice Ao44 y154.length co44, gb157) _ ⟨hHeld, (by (with_reducible repeat (first | apply Kd.R_alloc | apply Kd.R_drewN | apply Kd.R_drew)); exact Kd.R_mono HO156.out (fun _ hk => hk.2)), (by exact zk0 BK148), (by exact zk0 BK149), (by exact zk0 BK150), (by exact zk0 BK151), (by exact zk0 BK157), GW157.out, GE157.out, NB148_157.out, NB157_148.out, NB149_157.out, NB157_149.out, NB150_157.out, NB157_150.out, NB151_157.out, NB157_151.out, (by exact zb0 HB)⟩)
         rintro ⟨v155, gb157⟩ w45 ⟨hS_, h0_, h1_, h2_, h3_, h4_, h5_, h6_, h7_, h8_, h9_, h10_, h11_, h12_, h13_, h14_, h15_, h16_⟩
         have n0_ : Aside0 (Kd.R (Kd.int .i64) 3 w45 w.heap.size (fun k_ => k_ ≠ gb150) v155 y154) := ⟨h0_⟩
         have n1_ : Aside0 (w45.heap[gb148]? = some (.cells #[.int .i64 a0_0, .int .i64 a0_1, .slice A0_2 l0_2.length c0_2] 24 (0, 0))) := ⟨h1_⟩
         have n2_ : Aside0 (w45.heap[gb149]? = some (.cells #[.int .i64 a1_0, .int .i64 a1_1] 26 (0, 0))) := ⟨h2_⟩
         have n3_ : Aside0 (w45.heap[gb150]? = some (.cells #[.int .i64 a2] 3 (0, 0))) := ⟨h3_⟩
         have n4_ : Aside0 (w45.heap[gb151]? = some (.cells #[.int .i64 0, .int .i64 0, .slice none 0 0] 29 (0, 0))) := ⟨h4_⟩
         have n5_ : Aside0 (w45.heap[gb157]? = some (.cells #[.int .i64 0, .int .i64 0, .slice none 0 0] 29 (0, 0))) := ⟨h5_⟩
         have n6_ : Aside0 (w.heap.size ≤ gb157) := ⟨h6_⟩
         have n7_ : Aside0 (w.heap.size ≤ gb157) := ⟨h7_⟩
         have n8_ : Aside0 (gb148 ≠ gb157) := ⟨h8_⟩
         have n9_ : Aside0 (gb157 ≠ gb148) := ⟨h9_⟩
         have n10_ : Aside0 (gb149 ≠ gb157) := ⟨h10_⟩
         have n11_ : Aside0 (gb157 ≠ gb149) := ⟨h11_⟩
         have n12_ : Aside0 (gb150 ≠ gb157) := ⟨h12_⟩
         have n13_ : Aside0 (gb157 ≠ gb150) := ⟨h13_⟩
         have n14_ : Aside0 (gb151 ≠ gb157) := ⟨h14_⟩
         have n15_ : Aside0 (gb157 ≠ gb151) := ⟨h15_⟩
         have n16_ : Aside0 (Below w.heap.size w w45) := ⟨h16_⟩
         clear BK148
         clear BK149
         clear BK150
         clear BK151
         clear HB
         clear h0_ h1_ h2_ h3_ h4_ h5_ h6_ h7_ h8_ h9_ h10_ h11_ h12_ h13_ h14_ h15_ h16_
         have HO156 := n0_
         have BK148 := n1_
         have BK149 := n2_
         have BK150 := n3_
         have BK151 := n4_
         have BK157 := n5_
         have GW157 := n6_
         have GE157 := n7_
         have NB148_157 := n8_
         have NB157_148 := n9_
         have NB149_157 := n10_
         have NB157_149 := n11_
         have NB150_157 := n12_
         have NB157_150 := n13_
         have NB151_157 := n14_
         have NB157_151 := n15_
         have HB := n16_
         clear n0_ n1_ n2_ n3_ n4_ n5_ n6_ n7_ n8_ n9_ n10_ n11_ n12_ n13_ n14_ n15_ n16_
         have hHeld : w45.cell? ⟨gb148, 0, none⟩ = some (.int .i64 a0_0) ∧ w45.cell? ⟨gb148, 1, none⟩ = some (.int .i64 a0_1) ∧ w45.cell? ⟨gb148, 2, none⟩ = some (.slice A0_2 l0_2.length c0_2) := hS_
         obtain ⟨Ao46, co46, eo46⟩ := Kd.R_slice HO156.out
         (first | subst eo46 | (injection eo46 with f1_ f2_ f3_; have f4_ := f1_.symm; have f5_ := f3_.symm; clear f1_ f2_ f3_; subst f4_; subst f5_))
         refine norm_ (a' := ?_) ?_ ?_
         rotate_left
         ·simp only [putAll, Act.put, sA, sB, sC]
          rfl
         refine one_ (i := 10) (N := none) (bs 11 2047) rfl rfl (one_of HT_.out (by kernel_rfl)) (by decide) (fun K hK => ?_)
         have hs47 : w45.cell? ⟨gb157, 0, none⟩ = some (.int .i64 0) := (blk_cell BK157.out 0).trans rfl
         have hfs47 := blk_frozen BK157.out 0
         have hns47_0 := NB148_157.out
         have hns47_1 := NB149_157.out
         have hns47_2 := NB150_157.out
         have hns47_3 := NB151_157.out
         have hms47_0 := NB157_148.out
         have hms47_1 := NB157_149.out
         have hms47_2 := NB157_150.out
         have hms47_3 := NB157_151.out
         have hs48 : w45.cell? ⟨gb157, 1, none⟩ = some (.int .i64 0) := (blk_cell BK157.out 1).trans rfl
         have hfs48 := blk_frozen BK157.out 1
         have hns48_0 := NB148_157.out
         have hns48_1 := NB149_157.out
         have hns48_2 := NB150_157.out
         have hns48_3 := NB151_157.out
         have hms48_0 := NB157_148.out
         have hms48_1 := NB157_149.out
         have hms48_2 := NB157_150.out
         have hms48_3 := NB157_151.out
         have hs49 : w45.cell? ⟨gb157, 2, none⟩ = some (.slice none 0 0) := (blk_cell BK157.out 2).trans rfl
         have hfs49 := blk_frozen BK157.out 2
         have hns49_0 := NB148_157.out
         have hns49_1 := NB149_157.out
         have hns49_2 := NB150_157.out
         have hns49_3 := NB151_157.out
         have hms49_0 := NB157_148.out
         have hms49_1 := NB157_149.out
         have hms49_2 := NB157_150.out
         have hms49_3 := NB157_151.out
         refine skip_ (w1 := ?_) (by rfl) rfl ?_ ?_
         rotate_left
         ·go_simp
          rfl
         refine hK.out _ _ ⟨((cell_far (p := ⟨gb157, _, none⟩) NB148_157.out _).trans (((cell_far (p := ⟨gb157, _, none⟩) NB148_157.out _).trans (((cell_far (p := ⟨gb157, _, none⟩) NB148_157.out _).trans (hHeld.1)))))), ((cell_far (p := ⟨gb157, _, none⟩) NB148_157.out _).trans (((cell_far (p := ⟨gb157, _, none⟩) NB148_157.out _).trans (((cell_far (p := ⟨gb157, _, none⟩) NB148_157.out _).trans (hHeld.2.1)))))), ((cell_far (p := ⟨gb157, _, none⟩) NB148_157.out _).trans (((cell_far (p := ⟨gb157, _, none⟩) NB148_157.out _).trans (((cell_far (p := ⟨gb157, _, none⟩) NB148_157.out _).trans (hHeld.2.2))))))⟩ (fun hHeld => ?_)
         clear hK K
         refine done_ (done_of HT_.out (by kernel_rfl)) ?_
         have hnb50 := NB148_149.out
         have hnc50 := NB149_148.out
         have hnb51 := NB148_150.out
         have hnc51 := NB150_148.out
         have hnb52 := NB148_151.out
         have hnc52 := NB151_148.out
         have hnb53 := NB148_157.out
         have hnc53 := NB157_148.out
         obtain ⟨hcz54_0, hcz54_1, hcz54_2, hfz54_0, hfz54_1, hfz54_2⟩ := zq3 BK148
         have hnb55 := NB149_150.out
         have hnc55 := NB150_149.out
         have hnb56 := NB149_151.out
         have hnc56 := NB151_149.out
         have hnb57 := NB149_157.out
         have hnc57 := NB157_149.out
         obtain ⟨hcz58_0, hcz58_1, hfz58_0, hfz58_1⟩ := zq2 BK149
         have p158 : 0 ≤ ((ji36) : Int) := of_decide_eq_true (by first | (with_reducible assumption) | assumption)
         have q158 : (ji36) < (l0_2.length : Int) := of_decide_eq_true (by first | (with_reducible assumption) | assumption)
         obtain ⟨ad158, e158, hx158_0, hx158_1, hx158_2, hx158_3⟩ := at_T37 HR0_2.out (ji36) p158 q158
         cases e158
         have hn158_0 : ad158.block ≠ gb157 := Nat.ne_of_lt (Nat.lt_of_lt_of_le (by have := World.block_lt_of_cell? _ _ hx158_0; first | rwa [add_block] at this | exact this) GW157.out)
         have hn158_1 : ad158.block ≠ gb157 := Nat.ne_of_lt (Nat.lt_of_lt_of_le (by have := World.block_lt_of_cell? _ _ hx158_0; first | rwa [add_block] at this | exact this) GW157.out)
         have hn158_2 : ad158.block ≠ gb157 := Nat.ne_of_lt (Nat.lt_of_lt_of_le (by have := World.block_lt_of_cell? _ _ hx158_0; first | rwa [add_block] at this | exact this) GW157.out)
         replace hx158_0 := (HB.out.cell (World.block_lt_of_cell? w _ hx158_0)).trans hx158_0
         replace hx158_1 := (HB.out.cell (World.block_lt_of_cell? w _ hx158_1)).trans hx158_1
         replace hx158_2 := (HB.out.cell (World.block_lt_of_cell? w _ hx158_2)).trans hx158_2
         replace hx158_3 := (HB.out.cell (World.block_lt_of_cell? w _ hx158_3)).trans hx158_3
         replace hx158_0 := (cell_far (p := ⟨gb157, 0, none⟩) (by first | (rw [add_block]; exact hn158_0) | (show (Addr.add _ _).block ≠ _; rw [add_block]; exact hn158_0) | exact hn158_0) (.int .i64 a0_0)).trans hx158_0
         replace hx158_1 := (cell_far (p := ⟨gb157, 0, none⟩) (by first | (rw [add_block]; exact hn158_0) | (show (Addr.add _ _).block ≠ _; rw [add_block]; exact hn158_0) | exact hn158_0) (.int .i64 a0_0)).trans hx158_1
         replace hx158_2 := (cell_far (p := ⟨gb157, 0, none⟩) (by first | (rw [add_block]; exact hn158_0) | (show (Addr.add _ _).block ≠ _; rw [add_block]; exact hn158_0) | exact hn158_0) (.int .i64 a0_0)).trans hx158_2
         replace hx158_3 := (cell_far (p := ⟨gb157, 0, none⟩) (by first | (rw [add_block]; exact hn158_0) | (show (Addr.add _ _).block ≠ _; rw [add_block]; exact hn158_0) | exact hn158_0) (.int .i64 a0_0)).trans hx158_3
         replace hx158_0 := (cell_far (p := ⟨gb157, 1, none⟩) (by first | (rw [add_block]; exact hn158_1) | (show (Addr.add _ _).block ≠ _; rw [add_block]; exact hn158_1) | exact hn158_1) (.int .i64 a0_1)).trans hx158_0
         replace hx158_1 := (cell_far (p := ⟨gb157, 1, none⟩) (by first | (rw [add_block]; exact hn158_1) | (show (Addr.add _ _).block ≠ _; rw [add_block]; exact hn158_1) | exact hn158_1) (.int .i64 a0_1)).trans hx158_1
         replace hx158_2 := (cell_far (p := ⟨gb157, 1, none⟩) (by first | (rw [add_block]; exact hn158_1) | (show (Addr.add _ _).block ≠ _; rw [add_block]; exact hn158_1) | exact hn158_1) (.int .i64 a0_1)).trans hx158_2
         replace hx158_3 := (cell_far (p := ⟨gb157, 1, none⟩) (by first | (rw [add_block]; exact hn158_1) | (show (Addr.add _ _).block ≠ _; rw [add_block]; exact hn158_1) | exact hn158_1) (.int .i64 a0_1)).trans hx158_3
         replace hx158_0 := (cell_far (p := ⟨gb157, 2, none⟩) (by first | (rw [add_block]; exact hn158_2) | (show (Addr.add _ _).block ≠ _; rw [add_block]; exact hn158_2) | exact hn158_2) (.slice Ao46 y154.length co46)).trans hx158_0
         replace hx158_1 := (cell_far (p := ⟨gb157, 2, none⟩) (by first | (rw [add_block]; exact hn158_2) | (show (Addr.add _ _).block ≠ _; rw [add_block]; exact hn158_2) | exact hn158_2) (.slice Ao46 y154.length co46)).trans hx158_1
         replace hx158_2 := (cell_far (p := ⟨gb157, 2, none⟩) (by first | (rw [add_block]; exact hn158_2) | (show (Addr.add _ _).block ≠ _; rw [add_block]; exact hn158_2) | exact hn158_2) (.slice Ao46 y154.length co46)).trans hx158_2
         replace hx158_3 := (cell_far (p := ⟨gb157, 2, none⟩) (by first | (rw [add_block]; exact hn158_2) | (show (Addr.add _ _).block ≠ _; rw [add_block]; exact hn158_2) | exact hn158_2) (.slice Ao46 y154.length co46)).trans hx158_3
         clear hn158_0
         clear hn158_1
         clear hn158_2
         replace p158 := eq_true p158
         replace q158 := eq_true q158
         try go_wp2_with (first | ((with_reducible refine gate_dst (N := 12) rfl ?_); refine box_event ?hg (N := 12) ?hd (cs := #[.int .i64 0, .int .i64 0, .int .i64 0, .int .i64 0]) (t := 37) ?hr ?_; (case hd => rfl); (case hg => rfl); (case hr => first | (go_simp; done) | (go_simp; rfl)); intro gb159 hg w59 hbox hb; have n0_ := Aside0.mk (Kd.R_below (by exact zro HO156 BK157 (by decide)) hb); have n1_ := Aside0.mk (blk_below (g := gb157) (o := .cells #[.int .i64 a0_0, .int .i64 a0_1, .slice Ao46 y154.length co46] 29 (0, 0)) (by exact zp BK157 rfl) hb); have n2_ := Aside0.mk (below_step (by exact zbo HB GE157) hb); have n3_ := Aside0.mk (hbox); have n4_ := Aside0.mk ((by rw [hg]; exact (below_size (by exact zbo HB GE157)) : w.heap.size ≤ gb159)); have n5_ := Aside0.mk ((by rw [hg]; exact (below_size (by exact zbo HB GE157)) : w.heap.size ≤ gb159)); have n6_ := Aside0.mk ((by rw [hg]; exact Nat.ne_of_lt (blk_lt (zf BK148 NB148_157)) : gb148 ≠ gb159)); have n7_ := Aside0.mk ((by rw [hg]; exact Nat.ne_of_gt (blk_lt (zf BK148 NB148_157)) : gb159 ≠ gb148)); have n8_ := Aside0.mk ((by rw [hg]; exact Nat.ne_of_lt (blk_lt (zf BK149 NB149_157)) : gb149 ≠ gb159)); have n9_ := Aside0.mk ((by rw [hg]; exact Nat.ne_of_gt (blk_lt (zf BK149 NB149_157)) : gb159 ≠ gb149)); have n10_ := Aside0.mk ((by rw [hg]; exact Nat.ne_of_lt (blk_lt (zf BK150 NB150_157)) : gb150 ≠ gb159)); have n11_ := Aside0.mk ((by rw [hg]; exact Nat.ne_of_gt (blk_lt (zf BK150 NB150_157)) : gb159 ≠ gb150)); have n12_ := Aside0.mk ((by rw [hg]; exact Nat.ne_of_lt (blk_lt (zf BK151 NB151_157)) : gb151 ≠ gb159)); have n13_ := Aside0.mk ((by rw [hg]; exact Nat.ne_of_gt (blk_lt (zf BK151 NB151_157)) : gb159 ≠ gb151)); have n14_ := Aside0.mk ((by rw [hg]; exact Nat.ne_of_lt (blk_lt (g := gb157) (o := .cells #[.int .i64 a0_0, .int .i64 a0_1, .slice Ao46 y154.length co46] 29 (0, 0)) (by exact zp BK157 rfl)) : gb157 ≠ gb159)); have n15_ := Aside0.mk ((by rw [hg]; exact Nat.ne_of_gt (blk_lt (g := gb157) (o := .cells #[.int .i64 a0_0, .int .i64 a0_1, .slice Ao46 y154.length co46] 29 (0, 0)) (by exact zp BK157 rfl)) : gb159 ≠ gb157)); replace BK148 := zfk BK148 NB148_157 hb; replace BK149 := zfk BK149 NB149_157 hb; replace BK150 := zfk BK150 NB150_157 hb; replace BK151 := zfk BK151 NB151_157 hb; clear HO156; clear BK157; clear HB; have HO156 := n0_; have BK157 := n1_; have HB := n2_; have BK159 := n3_; have GW159 := n4_; have GE159 := n5_; have NB148_159 := n6_; have NB159_148 := n7_; have NB149_159 := n8_; have NB159_149 := n9_; have NB150_159 := n10_; have NB159_150 := n11_; have NB151_159 := n12_; have NB159_151 := n13_; have NB157_159 := n14_; have NB159_157 := n15_; clear n0_ n1_ n2_ n3_ n4_ n5_ n6_ n7_ n8_ n9_ n10_ n11_ n12_ n13_ n14_ n15_; clear hb hbox hg; have hnb60 := NB159_148.out; have hnc60 := NB148_159.out; have hnb61 := NB159_149.out; have hnc61 := NB149_159.out; have hnb62 := NB159_150.out; have hnc62 := NB150_159.out; have hnb63 := NB159_151.out; have hnc63 := NB151_159.out; have hnb64 := NB159_157.out; have hnc64 := NB157_159.out; obtain ⟨hcz65_0, hcz65_1, hcz65_2, hcz65_3, hfz65_0, hfz65_1, hfz65_2, hfz65_3⟩ := zq4 BK159) | ((with_reducible refine gate_dst (N := 13) rfl ?_); refine box_event ?hg (N := 13) ?hd (cs := #[.slice none 0 0]) (t := 48) ?hr ?_; (case hd => rfl); (case hg => rfl); (case hr => first | (go_simp; done) | (go_simp; rfl)); intro gb160 hg w66 hbox hb; have n0_ := Aside0.mk (Kd.R_below (by exact zro HO156 BK159 (by decide)) hb); have n1_ := Aside0.mk (blk_below (g := gb159) (o := .cells #[.int .i64 ((rd_T37 l0_2 (ji36)).f0), .int .i64 ((rd_T37 l0_2 (ji36)).f1), .int .i64 ((rd_T37 l0_2 (ji36)).f2), .int .i64 ((rd_T37 l0_2 (ji36)).f3)] 37 (0, 0)) (by exact zp BK159 rfl) hb); have n2_ := Aside0.mk (below_step (by exact zbo HB GE159) hb); have n3_ := Aside0.mk (hbox); have n4_ := Aside0.mk ((by rw [hg]; exact (below_size (by exact zbo HB GE159)) : w.heap.size ≤ gb160)); have n5_ := Aside0.mk ((by rw [hg]; exact (below_size (by exact zbo HB GE159)) : w.heap.size ≤ gb160)); have n6_ := Aside0.mk ((by rw [hg]; exact Nat.ne_of_lt (blk_lt (zf BK148 NB148_159)) : gb148 ≠ gb160)); have n7_ := Aside0.mk ((by rw [hg]; exact Nat.ne_of_gt (blk_lt (zf BK148 NB148_159)) : gb160 ≠ gb148)); have n8_ := Aside0.mk ((by rw [hg]; exact Nat.ne_of_lt (blk_lt (zf BK149 NB149_159)) : gb149 ≠ gb160)); have n9_ := Aside0.mk ((by rw [hg]; exact Nat.ne_of_gt (blk_lt (zf BK149 NB149_159)) : gb160 ≠ gb149)); have n10_ := Aside0.mk ((by rw [hg]; exact Nat.ne_of_lt (blk_lt (zf BK150 NB150_159)) : gb150 ≠ gb160)); have n11_ := Aside0.mk ((by rw [hg]; exact Nat.ne_of_gt (blk_lt (zf BK150 NB150_159)) : gb160 ≠ gb150)); have n12_ := Aside0.mk ((by rw [hg]; exact Nat.ne_of_lt (blk_lt (zf BK151 NB151_159)) : gb151 ≠ gb160)); have n13_ := Aside0.mk ((by rw [hg]; exact Nat.ne_of_gt (blk_lt (zf BK151 NB151_159)) : gb160 ≠ gb151)); have n14_ := Aside0.mk ((by rw [hg]; exact Nat.ne_of_lt (blk_lt (zf BK157 NB157_159)) : gb157 ≠ gb160)); have n15_ := Aside0.mk ((by rw [hg]; exact Nat.ne_of_gt (blk_lt (zf BK157 NB157_159)) : gb160 ≠ gb157)); have n16_ := Aside0.mk ((by rw [hg]; exact Nat.ne_of_lt (blk_lt (g := gb159) (o := .cells #[.int .i64 ((rd_T37 l0_2 (ji36)).f0), .int .i64 ((rd_T37 l0_2 (ji36)).f1), .int .i64 ((rd_T37 l0_2 (ji36)).f2), .int .i64 ((rd_T37 l0_2 (ji36)).f3)] 37 (0, 0)) (by exact zp BK159 rfl)) : gb159 ≠ gb160)); have n17_ := Aside0.mk ((by rw [hg]; exact Nat.ne_of_gt (blk_lt (g := gb159) (o := .cells #[.int .i64 ((rd_T37 l0_2 (ji36)).f0), .int .i64 ((rd_T37 l0_2 (ji36)).f1), .int .i64 ((rd_T37 l0_2 (ji36)).f2), .int .i64 ((rd_T37 l0_2 (ji36)).f3)] 37 (0, 0)) (by exact zp BK159 rfl)) : gb160 ≠ gb159)); replace BK148 := zfk BK148 NB148_159 hb; replace BK149 := zfk BK149 NB149_159 hb; replace BK150 := zfk BK150 NB150_159 hb; replace BK151 := zfk BK151 NB151_159 hb; replace BK157 := zfk BK157 NB157_159 hb; clear HO156; clear BK159; clear HB; have HO156 := n0_; have BK159 := n1_; have HB := n2_; have BK160 := n3_; have GW160 := n4_; have GE160 := n5_; have NB148_160 := n6_; have NB160_148 := n7_; have NB149_160 := n8_; have NB160_149 := n9_; have NB150_160 := n10_; have NB160_150 := n11_; have NB151_160 := n12_; have NB160_151 := n13_; have NB157_160 := n14_; have NB160_157 := n15_; have NB159_160 := n16_; have NB160_159 := n17_; clear n0_ n1_ n2_ n3_ n4_ n5_ n6_ n7_ n8_ n9_ n10_ n11_ n12_ n13_ n14_ n15_ n16_ n17_; clear hb hbox hg; have hnb67 := NB149_160.out; have hnc67 := NB160_149.out; obtain ⟨hcz68_0, hcz68_1, hfz68_0, hfz68_1⟩ := zq2 BK149) | ((with_reducible refine gate_calleeT (t := 74) rfl ?_); refine goesLT_ (some 76) rfl rfl Try.func24 (by kernel_rfl) rfl #[.pointer (some ⟨gb148, 0, none⟩), .pointer (some ⟨gb157, 0, none⟩), .pointer (some ⟨gb159, 0, none⟩), .pointer (some ⟨gb150, 0, none⟩), .pointer (some ⟨gb160, 0, none⟩)] #[.agg #[.int .i64 a1_0, .int .i64 a1_1], .pointer (some ⟨gb148, 0, none⟩), .pointer (some ⟨gb157, 0, none⟩), .pointer (some ⟨gb159, 0, none⟩), .pointer (some ⟨gb150, 0, none⟩), .pointer (some ⟨gb160, 0, none⟩)] rfl (by first | rfl | (go_simp; done) | (go_simp; rfl)) (by (try simp only [List.map_toArray, List.map_cons, List.map_nil]); first | done | rfl | (go_simp; done) | (go_simp; rfl)) ?_; (refine (wand_Flood_1.calls kj6 a1_0 a1_1 gb148 a0_0 a0_1 (some ad158) c0_2 l0_2 gb157 a0_0 a0_1 (.slice Ao46 y154.length co46) y154 gb159 ((rd_T37 l0_2 (ji36)).f0) ((rd_T37 l0_2 (ji36)).f1) ((rd_T37 l0_2 (ji36)).f2) ((rd_T37 l0_2 (ji36)).f3) gb150 a2 gb160 (.slice none 0 0) ([] : List (S26)) gb149 (#[.int .i64 a1_0, .int .i64 a1_1] : Array Value) gb151 (#[.int .i64 0, .int .i64 0, .slice none 0 0] : Array Value) gb149 (#[.int .i64 a1_0, .int .i64 a1_1] : Array Value) t161 t164 w _ ?side1 ?side2 ?side3 ?side4 ?side5 ?side6 ?side7 ?side8 ?side9 ?side10 ?side11 ?side12 ?side13 ?side14 ?side15 ?side16 ?side17 ?side18 ?side19 ?side20 ?side21 ?side22 ?side23 ?side24 ?side25 ?side26 ?side27 ?side28 ?side29 ?side30 ?side31 ?side32 ?side33 ?side34 ?side35 ?side36 ?side37 ?side38 ?side39 ?side40 ?side41 ?side42 ?side43 ?side44 ?side45 ?side46 A39.out).mono ?_); (case side1 => exact zb0 HB); (case side2 => exact zk0 BK148); (case side3 => exact HR0_2.out); (case side4 => exact HC0_2.out); (case side5 => exact zk0 BK157); (case side6 => exact zr0 HO156); (case side7 => exact zk0 BK159); (case side8 => exact zk0 BK150); (case side9 => exact zk0 BK160); (case side10 => exact Kd.R_nil _ _ _ _ _); (case side11 => exact zk0 BK149); (case side12 => exact zk0 BK151); (case side13 => exact zk0 BK149); (case side14 => exact GE148.out); (case side15 => exact GE157.out); (case side16 => exact GE159.out); (case side17 => exact GE150.out); (case side18 => exact GE160.out); (case side19 => exact GE149.out); (case side20 => exact GE151.out); (case side21 => exact GE149.out); (case side22 => exact NB157_148.out); (case side23 => exact NB159_148.out); (case side24 => exact NB159_157.out); (case side25 => exact NB150_148.out); (case side26 => exact NB150_157.out); (case side27 => exact NB150_159.out); (case side28 => exact NB160_148.out); (case side29 => exact NB160_157.out); (case side30 => exact NB160_159.out); (case side31 => exact NB160_150.out); (case side32 => exact NB149_148.out); (case side33 => exact NB149_157.out); (case side34 => exact NB149_159.out); (case side35 => exact NB149_150.out); (case side36 => exact NB149_160.out); (case side37 => exact NB151_148.out); (case side38 => exact NB151_157.out); (case side39 => exact NB151_159.out); (case side40 => exact NB151_150.out); (case side41 => exact NB151_160.out); (case side42 => exact NB149_148.out); (case side43 => exact NB149_157.out); (case side44 => exact NB149_159.out); (case side45 => exact NB149_150.out); (case side46 => exact NB149_160.out); rintro e w69 ⟨v162, v165, rfl, hk0_, hk1_, hk2_, hk3_, hk4_, hk5_, hk6_, hk7_, ho0_, ho1_, hb⟩; refine ⟨_, rfl, ?_⟩; have n0_ := Aside0.mk (hk0_); have n1_ := Aside0.mk (hk5_); have n2_ := Aside0.mk (hk3_); have n3_ := Aside0.mk (hk6_); have n4_ := Aside0.mk (hk1_); have n5_ := Aside0.mk (hk2_); have n6_ := Aside0.mk (hk4_); have n7_ := Aside0.mk (ho0_); have n8_ := Aside0.mk (Kd.R_mono ho1_ (fun k_ hk_ => hk_.1)); have n9_ := Aside0.mk (hb); clear BK148; clear BK149; clear BK150; clear BK151; clear BK157; clear BK159; clear BK160; clear HB; clear HO156; have BK148 := n0_; have BK149 := n1_; have BK150 := n2_; have BK151 := n3_; have BK157 := n4_; have BK159 := n5_; have BK160 := n6_; have HO163 := n7_; have HO166 := n8_; have HB := n9_; clear n0_ n1_ n2_ n3_ n4_ n5_ n6_ n7_ n8_ n9_; (try clear hb); (try clear hk0_); (try clear hk1_); (try clear hk2_); (try clear hk3_); (try clear hk4_); (try clear hk5_); (try clear hk6_); (try clear hk7_); (try clear ho0_); (try clear ho1_)))
         (try simp only [Act.put, sA, sB, sC])
         go_loopg [] kj6 (fun kq w' => ∃ (x158002_2 : List Int) (x161000_2 : List (S26)) (u158002 : Value) (u161000 : Value), Aside0 (wand_Flood.l0 kq a3 a0_0 a0_1 l0_2 a2 a0_0 a0_1 x158002_2 ((rd_T37 l0_2 (ji36)).f0) ((rd_T37 l0_2 (ji36)).f1) ((rd_T37 l0_2 (ji36)).f2) ((rd_T37 l0_2 (ji36)).f3) x161000_2 = some (r1, r2, r3, r4)) ∧ Aside0 (kq ≤ kj6) ∧ Aside0 (Kd.R (Kd.int .i64) 3 w' w.heap.size (fun k_ => k_ ≠ gb150) u158002 x158002_2) ∧ Aside0 (Kd.R k26 26 w' w.heap.size (fun k_ => k_ ≠ gb149) u161000 x161000_2) ∧ Aside0 (w'.heap[gb148]? = some (.cells #[.int .i64 a0_0, .int .i64 a0_1, (.slice (some ad158) l0_2.length c0_2)] 24 (0, 0))) ∧ Aside0 (w'.heap[gb149]? = some (.cells #[.int .i64 a1_0, .int .i64 a1_1] 26 (0, 0))) ∧ Aside0 (w'.heap[gb150]? = some (.cells #[.int .i64 a2] 3 (0, 0))) ∧ Aside0 (w'.heap[gb151]? = some (.cells #[.int .i64 0, .int .i64 0, (.slice none 0 0)] 29 (0, 0))) ∧ Aside0 (w'.heap[gb157]? = some (.cells #[.int .i64 a0_0, .int .i64 a0_1, u158002] 29 (0, 0))) ∧ Aside0 (w'.heap[gb159]? = some (.cells #[.int .i64 ((rd_T37 l0_2 (ji36)).f0), .int .i64 ((rd_T37 l0_2 (ji36)).f1), .int .i64 ((rd_T37 l0_2 (ji36)).f2), .int .i64 ((rd_T37 l0_2 (ji36)).f3)] 37 (0, 0))) ∧ Aside0 (w'.heap[gb160]? = some (.cells #[u161000] 48 (0, 0))) ∧ Aside0 (Below w.heap.size w w'))
         case atStart => exact ⟨(t161), (t164), (v162), (v165), H', ⟨Nat.le_refl _⟩, ⟨by exact zr0 HO163⟩, ⟨by exact zr0 HO166⟩, ⟨by exact zk0 BK148⟩, ⟨by exact zk0 BK149⟩, ⟨by exact zk0 BK150⟩, ⟨by exact zk0 BK151⟩, ⟨by exact zk0 BK157⟩, ⟨by exact zk0 BK159⟩, ⟨by exact zk0 BK160⟩, ⟨by exact zb0 HB⟩⟩
         case round =>
          clear H'
          try clear c1
          try clear p1
          try clear q1
          try clear hx1
          try clear c2
          try clear p2
          try clear q2
          try clear c3
          try clear q3
          try clear q4
          try clear c5
          try clear c6
          try clear c6b0
          try clear c6b1
          try clear p6
          try clear c9
          try clear c14
          try clear c14b0
          try clear p15
          try clear q15
          try clear hx15
          try clear c16
          try clear c16b0
          try clear c19
          try clear c19b0
          try clear c22
          try clear c22b0
          try clear c24
          try clear c29
          try clear c30
          try clear c31
          try clear c32
          try clear c34
          try clear c34b0
          try clear c34b1
          try clear c35
          try clear c35b0
          try clear c35b1
          try clear c37
          try clear c37b0
          try clear c38
          try clear c38b0
          try clear c50
          try clear c51
          try clear c52
          try clear c53
          try clear c55
          try clear c56
          try clear c57
          try clear c60
          try clear c61
          try clear c62
          try clear c63
          try clear c64
          try clear p64
          try clear c67
          try clear hcz12_0
          try clear hcz12_1
          try clear hcz12_2
          try clear hcz15_0
          try clear hcz15_1
          try clear hcz17_0
          try clear hcz17_1
          try clear hcz18_0
          try clear hcz18_1
          try clear hcz18_2
          try clear hcz20_0
          try clear hcz20_1
          try clear hcz21_0
          try clear hcz21_1
          try clear hcz21_2
          try clear hcz23_0
          try clear hcz23_1
          try clear hcz24_0
          try clear hcz24_1
          try clear hcz24_2
          try clear hcz26_0
          try clear hcz26_1
          try clear hcz27_0
          try clear hcz27_1
          try clear hcz27_2
          try clear hcz28_0
          try clear hcz33_0
          try clear hcz33_1
          try clear hcz33_2
          try clear hcz54_0
          try clear hcz54_1
          try clear hcz54_2
          try clear hcz58_0
          try clear hcz58_1
          try clear hcz65_0
          try clear hcz65_1
          try clear hcz65_2
          try clear hcz65_3
          try clear hcz68_0
          try clear hcz68_1
          try clear hfz12_0
          try clear hfz12_1
          try clear hfz12_2
          try clear hfz15_0
          try clear hfz15_1
          try clear hfz17_0
          try clear hfz17_1
          try clear hfz18_0
          try clear hfz18_1
          try clear hfz18_2
          try clear hfz20_0
          try clear hfz20_1
          try clear hfz21_0
          try clear hfz21_1
          try clear hfz21_2
          try clear hfz23_0
          try clear hfz23_1
          try clear hfz24_0
          try clear hfz24_1
          try clear hfz24_2
          try clear hfz26_0
          try clear hfz26_1
          try clear hfz27_0
          try clear hfz27_1
          try clear hfz27_2
          try clear hfz28_0
          try clear hfz33_0
          try clear hfz33_1
          try clear hfz33_2
          try clear hfz54_0
          try clear hfz54_1
          try clear hfz54_2
          try clear hfz58_0
          try clear hfz58_1
          try clear hfz65_0
          try clear hfz65_1
          try clear hfz65_2
          try clear hfz65_3
          try clear hfz68_0
          try clear hfz68_1
          try clear hx158_0
          try clear hx158_1
          try clear hx158_2
          try clear hx158_3
          try clear p158
          try clear p2
          try clear q1
          try clear q158
          try clear q2
          try clear q3
          obtain ⟨x158002_2, x161000_2, u158002, u161000, HA, HK2, HO_158002, HO_161000, BK148, BK149, BK150, BK151, BK157, BK159, BK160, HB⟩ := hrel
          cases gk with
          | zero => exact absurd HA.out (by simp [wand_Flood.l0])
          | succ k2 =>
           have H := HA.out
           clear HA
           simp only [wand_Flood.l0] at H
           by_cases c70 : (x161000_2.length : Int) > 0
           ·rw [if_pos c70] at H
            have c70b0 : decide (0 < (x161000_2.length : Int)) = true := decide_eq_true c70
            have c70b1 : decide (0 < x161000_2.length) = true := decide_eq_true (by omega)
            clear c70
            obtain ⟨ji71, hji71⟩ : ∃ j_ : Int, (wrap64 ((x161000_2.length : Int) - 1)) = j_ := ⟨_, rfl⟩
            replace H : (if 0 ≤ (ji71) then (if (ji71) < (x161000_2.length : Int) then (if (ji71) ≤ (x161000_2.length : Int) then (wand_Flood.l1 k2 a3 (-1) a0_0 a0_1 l0_2 a2 a0_0 a0_1 x158002_2 ((rd_T37 l0_2 (ji36)).f0) ((rd_T37 l0_2 (ji36)).f1) ((rd_T37 l0_2 (ji36)).f2) ((rd_T37 l0_2 (ji36)).f3) (x161000_2.take ((ji71) : Int).toNat) ((rd_T26 x161000_2 (ji71)).f0) ((rd_T26 x161000_2 (ji71)).f1)) else (none)) else (none)) else (none)) = some (r1, r2, r3, r4) := by first | (rw [hji71] at H; exact H) | (simp only [hji71] at H ⊢; exact H)
            have hji71w : (IntKind.i64.wrap ((x161000_2.length : Int) - 1)) = ji71 := (i64_w _).trans hji71
            by_cases c72 : 0 ≤ (ji71)
            ·rw [if_pos c72] at H
             have c72b0 : decide (0 ≤ (ji71)) = true := decide_eq_true c72
             clear c72
             by_cases c73 : (ji71) < (x161000_2.length : Int)
             ·rw [if_pos c73] at H
              have c73b0 : decide ((ji71) < (x161000_2.length : Int)) = true := decide_eq_true c73
              clear c73
              by_cases c74 : (ji71) ≤ (x161000_2.length : Int)
              ·rw [if_pos c74] at H
               have c74b0 := eq_true c74
               have c74b1 : decide ((ji71) ≤ (x161000_2.length : Int)) = true := decide_eq_true c74
               clear c74
               obtain ⟨y169, hy169⟩ : ∃ y_ : List (S26), y_ = (x161000_2.take ((ji71) : Int).toNat) := ⟨_, rfl⟩
               replace H : (wand_Flood.l1 k2 a3 (-1) a0_0 a0_1 l0_2 a2 a0_0 a0_1 x158002_2 ((rd_T37 l0_2 (ji36)).f0) ((rd_T37 l0_2 (ji36)).f1) ((rd_T37 l0_2 (ji36)).f2) ((rd_T37 l0_2 (ji36)).f3) y169 ((rd_T26 x161000_2 (ji71)).f0) ((rd_T26 x161000_2 (ji71)).f1)) = some (r1, r2, r3, r4) := by first | (rw [hy169]; with_reducible exact H) | (have H2_ := (Option.bind_some _ _).symm.trans H; rw [hy169]; with_reducible exact H2_) | (have H2_ := (Option.bind_some _ _).symm.trans H; with_reducible exact H2_) | with_reducible exact H | (rw [hy169]; exact H) | exact H
               have Ny169 := Aside0.mk hy169
               clear hy169
               have H' := Aside0.mk H
               clear H
               have hnb75 := NB160_148.out
               have hnc75 := NB148_160.out
               have hnb76 := NB160_149.out
               have hnc76 := NB149_160.out
               have hnb77 := NB160_150.out
               have hnc77 := NB150_160.out
               have hnb78 := NB160_151.out
               have hnc78 := NB151_160.out
               have hnb79 := NB160_157.out
               have hnc79 := NB157_160.out
               have hnb80 := NB160_159.out
               have hnc80 := NB159_160.out
               obtain ⟨hcz81_0, hfz81_0⟩ := zq1 BK160
               obtain ⟨Ao82, co82, eo82⟩ := Kd.R_slice HO_161000.out
               subst eo82
               have p167 : 0 ≤ ((ji71) : Int) := of_decide_eq_true (by first | (with_reducible assumption) | assumption)
               have q167 : (ji71) < (x161000_2.length : Int) := of_decide_eq_true (by first | (with_reducible assumption) | assumption)
               obtain ⟨ad167, e167, hx167_0, hx167_1⟩ := at_T26 (Kd.R_reads' HO_161000.out).2.2 (ji71) p167 q167
               cases e167
               replace p167 := eq_true p167
               replace q167 := eq_true q167
               go_wp2_with (first | ((with_reducible refine gate_dst (N := 15) rfl ?_); refine box_event ?hg (N := 15) ?hd (cs := #[.int .i64 0, .int .i64 0]) (t := 26) ?hr ?_; (case hd => rfl); (case hg => rfl); (case hr => first | (go_simp; done) | (go_simp; rfl)); intro gb168 hg w83 hbox hb; have GW168 := zg HB hg; have GE168 := zg HB hg; have NB148_168 := zn BK148 hg; have NB168_148 := zn' BK148 hg; have NB149_168 := zn BK149 hg; have NB168_149 := zn' BK149 hg; have NB150_168 := zn BK150 hg; have NB168_150 := zn' BK150 hg; have NB151_168 := zn BK151 hg; have NB168_151 := zn' BK151 hg; have NB157_168 := zn BK157 hg; have NB168_157 := zn' BK157 hg; have NB159_168 := zn BK159 hg; have NB168_159 := zn' BK159 hg; have NB160_168 := zn BK160 hg; have NB168_160 := zn' BK160 hg; have n0_ := Aside0.mk (Kd.R_below (Kd.R_elderB (by exact zr0 HO_161000) gb168 (Nat.le_of_eq hg.symm)) hb); have n1_ := Aside0.mk (hbox); replace HO_158002 := zr HO_158002 hb; replace BK148 := zk BK148 hb; replace BK149 := zk BK149 hb; replace BK150 := zk BK150 hb; replace BK151 := zk BK151 hb; replace BK157 := zk BK157 hb; replace BK159 := zk BK159 hb; replace BK160 := zk BK160 hb; replace HB := zb HB hb; clear HO_161000; have HO_161000 := n0_; have BK168 := n1_; clear n0_ n1_; clear hb hbox hg; have hnb84 := NB168_148.out; have hnc84 := NB148_168.out; have hnb85 := NB168_149.out; have hnc85 := NB149_168.out; have hnb86 := NB168_150.out; have hnc86 := NB150_168.out; have hnb87 := NB168_151.out; have hnc87 := NB151_168.out; have hnb88 := NB168_157.out; have hnc88 := NB157_168.out; have hnb89 := NB168_159.out; have hnc89 := NB159_168.out; have hnb90 := NB168_160.out; have hnc90 := NB160_168.out; obtain ⟨hcz91_0, hcz91_1, hfz91_0, hfz91_1⟩ := zq2 BK168) | ((with_reducible refine gate_store (t := 26) (p := 15) rfl ?_); refine store_event (t := 26) (p := 15) (v := ?vo_w92) (w1 := ((w83.setCell ⟨gb168, 0, none⟩ (.int .i64 ((rd_T26 x161000_2 (ji71)).f0))).setCell ⟨gb168, 1, none⟩ (.int .i64 ((rd_T26 x161000_2 (ji71)).f1)))) ?hg ?ho ?hn ?hr ?_; (case ho => rfl); (case hg => rfl); (case hn => rfl); (case hr => first | (go_simp; done) | (go_simp; rfl)); intro w92 hw; have n0_ : Aside0 (Kd.R (Kd.int .i64) 3 w92 w.heap.size (fun k_ => k_ ≠ gb150) u158002 x158002_2) := ⟨(by rw [hw]; exact (by exact zro HO_158002 BK168 (by decide)))⟩; have n1_ : Aside0 (Kd.R k26 26 w92 w.heap.size (fun k_ => k_ ≠ gb149 ∧ k_ ≠ gb168) (.slice (some ad167) x161000_2.length co82) x161000_2) := ⟨(by rw [hw]; exact (by exact zro' HO_161000 (fun k_ hk => hk.2)))⟩; have n2_ : Aside0 (w92.heap[gb148]? = some (.cells #[.int .i64 a0_0, .int .i64 a0_1, .slice (some ad158) l0_2.length c0_2] 24 (0, 0))) := ⟨(by rw [hw]; exact (by exact zf BK148 NB148_168))⟩; have n3_ : Aside0 (w92.heap[gb149]? = some (.cells #[.int .i64 a1_0, .int .i64 a1_1] 26 (0, 0))) := ⟨(by rw [hw]; exact (by exact zf BK149 NB149_168))⟩; have n4_ : Aside0 (w92.heap[gb150]? = some (.cells #[.int .i64 a2] 3 (0, 0))) := ⟨(by rw [hw]; exact (by exact zf BK150 NB150_168))⟩; have n5_ : Aside0 (w92.heap[gb151]? = some (.cells #[.int .i64 0, .int .i64 0, .slice none 0 0] 29 (0, 0))) := ⟨(by rw [hw]; exact (by exact zf BK151 NB151_168))⟩; have n6_ : Aside0 (w92.heap[gb157]? = some (.cells #[.int .i64 a0_0, .int .i64 a0_1, u158002] 29 (0, 0))) := ⟨(by rw [hw]; exact (by exact zf BK157 NB157_168))⟩; have n7_ : Aside0 (w92.heap[gb159]? = some (.cells #[.int .i64 ((rd_T37 l0_2 (ji36)).f0), .int .i64 ((rd_T37 l0_2 (ji36)).f1), .int .i64 ((rd_T37 l0_2 (ji36)).f2), .int .i64 ((rd_T37 l0_2 (ji36)).f3)] 37 (0, 0))) := ⟨(by rw [hw]; exact (by exact zf BK159 NB159_168))⟩; have n8_ : Aside0 (w92.heap[gb160]? = some (.cells #[.slice (some ad167) x161000_2.length co82] 48 (0, 0))) := ⟨(by rw [hw]; exact (by exact zf BK160 NB160_168))⟩; have n9_ : Aside0 (w92.heap[gb168]? = some (.cells #[.int .i64 ((rd_T26 x161000_2 (ji71)).f0), .int .i64 ((rd_T26 x161000_2 (ji71)).f1)] 26 (0, 0))) := ⟨(by rw [hw]; exact (by exact zp BK168 rfl))⟩; have n10_ : Aside0 (Below w.heap.size w w92) := ⟨(by rw [hw]; exact (by exact zbo HB GE168))⟩; clear hw; clear HO_158002; clear HO_161000; clear BK148; clear BK149; clear BK150; clear BK151; clear BK157; clear BK159; clear BK160; clear BK168; clear HB; have HO_158002 := n0_; have HO_161000 := n1_; have BK148 := n2_; have BK149 := n3_; have BK150 := n4_; have BK151 := n5_; have BK157 := n6_; have BK159 := n7_; have BK160 := n8_; have BK168 := n9_; have HB := n10_; clear n0_ n1_ n2_ n3_ n4_ n5_ n6_ n7_ n8_ n9_ n10_; obtain ⟨hcz93_0, hfz93_0⟩ := zq1 BK160; have q94 : ((ji71) : Int) ≤ ((x161000_2.length : Int) : Int) := of_decide_eq_true (by first | (with_reducible assumption) | assumption); obtain ⟨i094, hi094, _, hsz94, _⟩ := info_parts info26; have hcut94 := cut_to (P := Try.prog) 48 26 .i64 Try.underlying48 hi094 (some ad167) x161000_2.length co82 (ji71) (of_decide_eq_true (by first | (with_reducible assumption) | assumption)) q94 (Kd.R_reads' HO_161000.out).2.1; have hr94 := Kd.R_take (m := ((ji71) : Int).toNat) HO_161000.out (by omega); have hy94 : y169.length = ((ji71) : Int).toNat := (by rw [Ny169.out, List.length_take]; omega); rw [← Ny169.out] at hr94; rw [← hy94] at hr94 hcut94; clear hy94 hi094 hsz94 HO_161000; have HO171 := Aside0.mk hr94; clear hr94; replace q94 := eq_true q94))
               (try simp only [Act.put, sA, sB, sC])
               go_loopg [16] k2 (fun kq v16 w' => ∃ (x16_3 : Int) (x158002_3 : List Int) (x161000_3 : List (S26)) (u158002 : Value) (u161000 : Value), v16 = .int .i64 x16_3 ∧ Aside0 (wand_Flood.l1 kq a3 x16_3 a0_0 a0_1 l0_2 a2 a0_0 a0_1 x158002_3 ((rd_T37 l0_2 (ji36)).f0) ((rd_T37 l0_2 (ji36)).f1) ((rd_T37 l0_2 (ji36)).f2) ((rd_T37 l0_2 (ji36)).f3) x161000_3 ((rd_T26 x161000_2 (ji71)).f0) ((rd_T26 x161000_2 (ji71)).f1) = some (r1, r2, r3, r4)) ∧ Aside0 (kq ≤ k2) ∧ Aside0 (Kd.R (Kd.int .i64) 3 w' w.heap.size (fun k_ => k_ ≠ gb150) u158002 x158002_3) ∧ Aside0 (Kd.R k26 26 w' w.heap.size (fun k_ => k_ ≠ gb149 ∧ k_ ≠ gb168) u161000 x161000_3) ∧ Aside0 (w'.heap[gb148]? = some (.cells #[.int .i64 a0_0, .int .i64 a0_1, (.slice (some ad158) l0_2.length c0_2)] 24 (0, 0))) ∧ Aside0 (w'.heap[gb149]? = some (.cells #[.int .i64 a1_0, .int .i64 a1_1] 26 (0, 0))) ∧ Aside0 (w'.heap[gb150]? = some (.cells #[.int .i64 a2] 3 (0, 0))) ∧ Aside0 (w'.heap[gb151]? = some (.cells #[.int .i64 0, .int .i64 0, (.slice none 0 0)] 29 (0, 0))) ∧ Aside0 (w'.heap[gb157]? = some (.cells #[.int .i64 a0_0, .int .i64 a0_1, u158002] 29 (0, 0))) ∧ Aside0 (w'.heap[gb159]? = some (.cells #[.int .i64 ((rd_T37 l0_2 (ji36)).f0), .int .i64 ((rd_T37 l0_2 (ji36)).f1), .int .i64 ((rd_T37 l0_2 (ji36)).f2), .int .i64 ((rd_T37 l0_2 (ji36)).f3)] 37 (0, 0))) ∧ Aside0 (w'.heap[gb160]? = some (.cells #[u161000] 48 (0, 0))) ∧ Aside0 (w'.heap[gb168]? = some (.cells #[.int .i64 ((rd_T26 x161000_2 (ji71)).f0), .int .i64 ((rd_T26 x161000_2 (ji71)).f1)] 26 (0, 0))) ∧ Aside0 (Below w.heap.size w w'))
               case atStart => exact ⟨((-1)), (x158002_2), (y169), (u158002), (.slice (some ad167) y169.length co82), (by first | rfl | (simp; done) | (simp [*]; done)), H', ⟨Nat.le_refl _⟩, ⟨by exact zro HO_158002 BK160 (by decide)⟩, ⟨by exact zro HO171 BK160 (by decide)⟩, ⟨by exact zf BK148 NB148_160⟩, ⟨by exact zf BK149 NB149_160⟩, ⟨by exact zf BK150 NB150_160⟩, ⟨by exact zf BK151 NB151_160⟩, ⟨by exact zf BK157 NB157_160⟩, ⟨by exact zf BK159 NB159_160⟩, ⟨by exact zp BK160 rfl⟩, ⟨by exact zf BK168 NB168_160⟩, ⟨by exact zbo HB GE160⟩⟩
               case round =>
                clear H'
                try clear c1
                try clear p1
                try clear q1
                try clear hx1
                try clear c2
                try clear p2
                try clear q2
                try clear c3
                try clear q3
                try clear q4
                try clear c5
                try clear c6
                try clear c6b0
                try clear c6b1
                try clear p6
                try clear c7
                try clear c8
                try clear c9
                try clear q9
                try clear c14
                try clear c14b0
                try clear p15
                try clear q15
                try clear hx15
                try clear c16
                try clear c16b0
                try clear p16
                try clear q16
                try clear hx16
                try clear c19
                try clear c19b0
                try clear c22
                try clear c22b0
                try clear c24
                try clear c29
                try clear c30
                try clear c31
                try clear c32
                try clear c34
                try clear c34b0
                try clear c34b1
                try clear c35
                try clear c35b0
                try clear c35b1
                try clear c37
                try clear c37b0
                try clear c38
                try clear c38b0
                try clear c50
                try clear c51
                try clear c52
                try clear c53
                try clear c55
                try clear c56
                try clear c57
                try clear c60
                try clear c61
                try clear c62
                try clear c63
                try clear c64
                try clear p64
                try clear c67
                try clear c70
                try clear c70b0
                try clear c70b1
                try clear c72
                try clear c72b0
                try clear c73
                try clear c73b0
                try clear c74
                try clear c74b0
                try clear c74b1
                try clear c75
                try clear c76
                try clear c77
                try clear c78
                try clear c79
                try clear c80
                try clear c84
                try clear c85
                try clear c86
                try clear c87
                try clear c88
                try clear c89
                try clear c90
                try clear q94
                try clear hcz12_0
                try clear hcz12_1
                try clear hcz12_2
                try clear hcz15_0
                try clear hcz15_1
                try clear hcz17_0
                try clear hcz17_1
                try clear hcz18_0
                try clear hcz18_1
                try clear hcz18_2
                try clear hcz20_0
                try clear hcz20_1
                try clear hcz21_0
                try clear hcz21_1
                try clear hcz21_2
                try clear hcz23_0
                try clear hcz23_1
                try clear hcz24_0
                try clear hcz24_1
                try clear hcz24_2
                try clear hcz26_0
                try clear hcz26_1
                try clear hcz27_0
                try clear hcz27_1
                try clear hcz27_2
                try clear hcz28_0
                try clear hcz33_0
                try clear hcz33_1
                try clear hcz33_2
                try clear hcz54_0
                try clear hcz54_1
                try clear hcz54_2
                try clear hcz58_0
                try clear hcz58_1
                try clear hcz65_0
                try clear hcz65_1
                try clear hcz65_2
                try clear hcz65_3
                try clear hcz68_0
                try clear hcz68_1
                try clear hcz81_0
                try clear hcz91_0
                try clear hcz91_1
                try clear hcz93_0
                try clear hfz12_0
                try clear hfz12_1
                try clear hfz12_2
                try clear hfz15_0
                try clear hfz15_1
                try clear hfz17_0
                try clear hfz17_1
                try clear hfz18_0
                try clear hfz18_1
                try clear hfz18_2
                try clear hfz20_0
                try clear hfz20_1
                try clear hfz21_0
                try clear hfz21_1
                try clear hfz21_2
                try clear hfz23_0
                try clear hfz23_1
                try clear hfz24_0
                try clear hfz24_1
                try clear hfz24_2
                try clear hfz26_0
                try clear hfz26_1
                try clear hfz27_0
                try clear hfz27_1
                try clear hfz27_2
                try clear hfz28_0
                try clear hfz33_0
                try clear hfz33_1
                try clear hfz33_2
                try clear hfz54_0
                try clear hfz54_1
                try clear hfz54_2
                try clear hfz58_0
                try clear hfz58_1
                try clear hfz65_0
                try clear hfz65_1
                try clear hfz65_2
                try clear hfz65_3
                try clear hfz68_0
                try clear hfz68_1
                try clear hfz81_0
                try clear hfz91_0
                try clear hfz91_1
                try clear hfz93_0
                try clear hx158_0
                try clear hx158_1
                try clear hx158_2
                try clear hx158_3
                try clear hx167_0
                try clear hx167_1
                try clear p1
                try clear p15
                try clear p158
                try clear p167
                try clear p2
                try clear p6
                try clear p64
                try clear q1
                try clear q15
                try clear q158
                try clear q167
                try clear q2
                try clear q3
                try clear q4
                try clear q94
                obtain ⟨x16_3, x158002_3, x161000_3, u158002, u161000, rfl, HA, HK3, HO_158002, HO_161000, BK148, BK149, BK150, BK151, BK157, BK159, BK160, BK168, HB⟩ := hrel
                cases gk with
                | zero => exact absurd HA.out (by simp [wand_Flood.l1])
                | succ k3 =>
                 have H := HA.out
                 clear HA
                 simp only [wand_Flood.l1] at H
                 by_cases c95 : x16_3 ≤ 1
                 ·rw [if_pos c95] at H
                  have c95b0 : decide (x16_3 ≤ 1) = true := decide_eq_true c95
                  clear c95
                  have H' := Aside0.mk H
                  clear H
                  go_wp2
                  go_loopg [17] k3 (fun kq v17 w' => ∃ (x17_4 : Int) (x158002_4 : List Int) (x161000_4 : List (S26)) (u158002 : Value) (u161000 : Value), v17 = .int .i64 x17_4 ∧ Aside0 (wand_Flood.l2 kq a3 x16_3 x17_4 a0_0 a0_1 l0_2 a2 a0_0 a0_1 x158002_4 ((rd_T37 l0_2 (ji36)).f0) ((rd_T37 l0_2 (ji36)).f1) ((rd_T37 l0_2 (ji36)).f2) ((rd_T37 l0_2 (ji36)).f3) x161000_4 ((rd_T26 x161000_2 (ji71)).f0) ((rd_T26 x161000_2 (ji71)).f1) = some (r1, r2, r3, r4)) ∧ Aside0 (kq ≤ k3) ∧ Aside0 (Kd.R (Kd.int .i64) 3 w' w.heap.size (fun k_ => k_ ≠ gb150) u158002 x158002_4) ∧ Aside0 (Kd.R k26 26 w' w.heap.size (fun k_ => k_ ≠ gb149 ∧ k_ ≠ gb168) u161000 x161000_4) ∧ Aside0 (w'.heap[gb148]? = some (.cells #[.int .i64 a0_0, .int .i64 a0_1, (.slice (some ad158) l0_2.length c0_2)] 24 (0, 0))) ∧ Aside0 (w'.heap[gb149]? = some (.cells #[.int .i64 a1_0, .int .i64 a1_1] 26 (0, 0))) ∧ Aside0 (w'.heap[gb150]? = some (.cells #[.int .i64 a2] 3 (0, 0))) ∧ Aside0 (w'.heap[gb151]? = some (.cells #[.int .i64 0, .int .i64 0, (.slice none 0 0)] 29 (0, 0))) ∧ Aside0 (w'.heap[gb157]? = some (.cells #[.int .i64 a0_0, .int .i64 a0_1, u158002] 29 (0, 0))) ∧ Aside0 (w'.heap[gb159]? = some (.cells #[.int .i64 ((rd_T37 l0_2 (ji36)).f0), .int .i64 ((rd_T37 l0_2 (ji36)).f1), .int .i64 ((rd_T37 l0_2 (ji36)).f2), .int .i64 ((rd_T37 l0_2 (ji36)).f3)] 37 (0, 0))) ∧ Aside0 (w'.heap[gb160]? = some (.cells #[u161000] 48 (0, 0))) ∧ Aside0 (w'.heap[gb168]? = some (.cells #[.int .i64 ((rd_T26 x161000_2 (ji71)).f0), .int .i64 ((rd_T26 x161000_2 (ji71)).f1)] 26 (0, 0))) ∧ Aside0 (Below w.heap.size w w'))
                  case atStart => exact ⟨((-1)), (x158002_3), (x161000_3), (u158002), (u161000), (by first | rfl | (simp; done) | (simp [*]; done)), H', ⟨Nat.le_refl _⟩, ⟨by exact zr0 HO_158002⟩, ⟨by exact zr0 HO_161000⟩, ⟨by exact zk0 BK148⟩, ⟨by exact zk0 BK149⟩, ⟨by exact zk0 BK150⟩, ⟨by exact zk0 BK151⟩, ⟨by exact zk0 BK157⟩, ⟨by exact zk0 BK159⟩, ⟨by exact zk0 BK160⟩, ⟨by exact zk0 BK168⟩, ⟨by exact zb0 HB⟩⟩
                  case round =>
                   clear H'
                   try clear c1
                   try clear p1
                   try clear q1
                   try clear hx1
                   try clear c2
                   try clear p2
                   try clear q2
                   try clear c3
                   try clear q3
                   try clear q4
                   try clear c5
                   try clear c6
                   try clear c6b0
                   try clear c6b1
                   try clear p6
                   try clear c7
                   try clear c8
                   try clear c9
                   try clear q9
                   try clear c14
                   try clear c14b0
                   try clear p15
                   try clear q15
                   try clear hx15
                   try clear c16
                   try clear c16b0
                   try clear p16
                   try clear q16
                   try clear hx16
                   try clear c19
                   try clear c19b0
                   try clear c22
                   try clear c22b0
                   try clear c24
                   try clear c29
                   try clear c30
                   try clear c31
                   try clear c32
                   try clear c34
                   try clear c34b0
                   try clear c34b1
                   try clear c35
                   try clear c35b0
                   try clear c35b1
                   try clear c37
                   try clear c37b0
                   try clear c38
                   try clear c38b0
                   try clear c50
                   try clear c51
                   try clear c52
                   try clear c53
                   try clear c55
                   try clear c56
                   try clear c57
                   try clear c60
                   try clear c61
                   try clear c62
                   try clear c63
                   try clear c64
                   try clear p64
                   try clear c67
                   try clear c70
                   try clear c70b0
                   try clear c70b1
                   try clear c72
                   try clear c72b0
                   try clear c73
                   try clear c73b0
                   try clear c74
                   try clear c74b0
                   try clear c74b1
                   try clear c75
                   try clear c76
                   try clear c77
                   try clear c78
                   try clear c79
                   try clear c80
                   try clear c84
                   try clear c85
                   try clear c86
                   try clear c87
                   try clear c88
                   try clear c89
                   try clear c90
                   try clear q94
                   try clear c95
                   try clear c95b0
                   try clear hcz12_0
                   try clear hcz12_1
                   try clear hcz12_2
                   try clear hcz15_0
                   try clear hcz15_1
                   try clear hcz17_0
                   try clear hcz17_1
                   try clear hcz18_0
                   try clear hcz18_1
                   try clear hcz18_2
                   try clear hcz20_0
                   try clear hcz20_1
                   try clear hcz21_0
                   try clear hcz21_1
                   try clear hcz21_2
                   try clear hcz23_0
                   try clear hcz23_1
                   try clear hcz24_0
                   try clear hcz24_1
                   try clear hcz24_2
                   try clear hcz26_0
                   try clear hcz26_1
                   try clear hcz27_0
                   try clear hcz27_1
                   try clear hcz27_2
                   try clear hcz28_0
                   try clear hcz33_0
                   try clear hcz33_1
                   try clear hcz33_2
                   try clear hcz54_0
                   try clear hcz54_1
                   try clear hcz54_2
                   try clear hcz58_0
                   try clear hcz58_1
                   try clear hcz65_0
                   try clear hcz65_1
                   try clear hcz65_2
                   try clear hcz65_3
                   try clear hcz68_0
                   try clear hcz68_1
                   try clear hcz81_0
                   try clear hcz91_0
                   try clear hcz91_1
                   try clear hcz93_0
                   try clear hfz12_0
                   try clear hfz12_1
                   try clear hfz12_2
                   try clear hfz15_0
                   try clear hfz15_1
                   try clear hfz17_0
                   try clear hfz17_1
                   try clear hfz18_0
                   try clear hfz18_1
                   try clear hfz18_2
                   try clear hfz20_0
                   try clear hfz20_1
                   try clear hfz21_0
                   try clear hfz21_1
                   try clear hfz21_2
                   try clear hfz23_0
                   try clear hfz23_1
                   try clear hfz24_0
                   try clear hfz24_1
                   try clear hfz24_2
                   try clear hfz26_0
                   try clear hfz26_1
                   try clear hfz27_0
                   try clear hfz27_1
                   try clear hfz27_2
                   try clear hfz28_0
                   try clear hfz33_0
                   try clear hfz33_1
                   try clear hfz33_2
                   try clear hfz54_0
                   try clear hfz54_1
                   try clear hfz54_2
                   try clear hfz58_0
                   try clear hfz58_1
                   try clear hfz65_0
                   try clear hfz65_1
                   try clear hfz65_2
                   try clear hfz65_3
                   try clear hfz68_0
                   try clear hfz68_1
                   try clear hfz81_0
                   try clear hfz91_0
                   try clear hfz91_1
                   try clear hfz93_0
                   try clear hx158_0
                   try clear hx158_1
                   try clear hx158_2
                   try clear hx158_3
                   try clear hx167_0
                   try clear hx167_1
                   try clear p1
                   try clear p15
                   try clear p158
                   try clear p16
                   try clear p167
                   try clear p2
                   try clear p6
                   try clear p64
                   try clear q1
                   try clear q15
                   try clear q158
                   try clear q16
                   try clear q167
                   try clear q2
                   try clear q3
                   try clear q4
                   try clear q9
                   try clear q94
                   obtain ⟨x17_4, x158002_4, x161000_4, u158002, u161000, rfl, HA, HK4, HO_158002, HO_161000, BK148, BK149, BK150, BK151, BK157, BK159, BK160, BK168, HB⟩ := hrel
                   cases gk with
                   | zero => exact absurd HA.out (by simp [wand_Flood.l2])
                   | succ k4 =>
                    have H := HA.out
                    clear HA
                    simp only [wand_Flood.l2] at H
                    by_cases c96 : x17_4 ≤ 1
                    ·rw [if_pos c96] at H
                     have c96b0 : decide (x17_4 ≤ 1) = true := decide_eq_true c96
                     clear c96
                     by_cases c97 : a3 = true
                     ·subst c97
                      have H1 : ((wand_Flood_1.f k4 (wrap64 (((rd_T26 x161000_2 (ji71)).f0) + x17_4)) (wrap64 (((rd_T26 x161000_2 (ji71)).f1) + x16_3)) a0_0 a0_1 l0_2 a0_0 a0_1 x158002_4 ((rd_T37 l0_2 (ji36)).f0) ((rd_T37 l0_2 (ji36)).f1) ((rd_T37 l0_2 (ji36)).f2) ((rd_T37 l0_2 (ji36)).f3) a2 x161000_4).bind fun bt172 => (wand_Flood.l2 k4 true x16_3 (wrap64 (x17_4 + 1)) a0_0 a0_1 l0_2 a2 a0_0 a0_1 bt172.1 ((rd_T37 l0_2 (ji36)).f0) ((rd_T37 l0_2 (ji36)).f1) ((rd_T37 l0_2 (ji36)).f2) ((rd_T37 l0_2 (ji36)).f3) bt172.2 ((rd_T26 x161000_2 (ji71)).f0) ((rd_T26 x161000_2 (ji71)).f1))) = some (r1, r2, r3, r4) := by rw [if_pos rfl] at H; exact H
                      clear H
                      have H := H1
                      clear H1
                      replace H := Option.bind_eq_some_iff.mp H
                      obtain ⟨⟨t172, t175⟩, A980, H⟩ := H
                      replace H : (wand_Flood.l2 k4 true x16_3 (wrap64 (x17_4 + 1)) a0_0 a0_1 l0_2 a2 a0_0 a0_1 t172 ((rd_T37 l0_2 (ji36)).f0) ((rd_T37 l0_2 (ji36)).f1) ((rd_T37 l0_2 (ji36)).f2) ((rd_T37 l0_2 (ji36)).f3) t175 ((rd_T26 x161000_2 (ji71)).f0) ((rd_T26 x161000_2 (ji71)).f1)) = some (r1, r2, r3, r4) := H
                      have A98 := Aside0.mk A980
                      clear A980
                      have H' := Aside0.mk H
                      clear H
                      obtain ⟨hcz99_0, hcz99_1, hfz99_0, hfz99_1⟩ := zq2 BK168
                      obtain ⟨Ao100, co100, eo100⟩ := Kd.R_slice HO_158002.out
                      subst eo100
                      obtain ⟨Ao101, co101, eo101⟩ := Kd.R_slice HO_161000.out
                      subst eo101
                      go_wp2_with (first | ((with_reducible refine gate_calleeT (t := 108) rfl ?_); refine goesLT_ (some 118) rfl rfl Try.func24 (by kernel_rfl) rfl #[.pointer (some ⟨gb148, 0, none⟩), .pointer (some ⟨gb157, 0, none⟩), .pointer (some ⟨gb159, 0, none⟩), .pointer (some ⟨gb150, 0, none⟩), .pointer (some ⟨gb160, 0, none⟩)] #[.agg #[.int .i64 (wrap64 (((rd_T26 x161000_2 (ji71)).f0) + x17_4)), .int .i64 (wrap64 (((rd_T26 x161000_2 (ji71)).f1) + x16_3))], .pointer (some ⟨gb148, 0, none⟩), .pointer (some ⟨gb157, 0, none⟩), .pointer (some ⟨gb159, 0, none⟩), .pointer (some ⟨gb150, 0, none⟩), .pointer (some ⟨gb160, 0, none⟩)] rfl (by first | rfl | (go_simp; done) | (go_simp; rfl)) (by (try simp only [List.map_toArray, List.map_cons, List.map_nil]); first | done | rfl | (go_simp; done) | (go_simp; rfl)) ?_; (with_reducible refine (wand_Flood_1.calls k4 (wrap64 (((rd_T26 x161000_2 (ji71)).f0) + x17_4)) (wrap64 (((rd_T26 x161000_2 (ji71)).f1) + x16_3)) gb148 a0_0 a0_1 (some ad158) c0_2 l0_2 gb157 a0_0 a0_1 (.slice Ao100 x158002_4.length co100) x158002_4 gb159 ((rd_T37 l0_2 (ji36)).f0) ((rd_T37 l0_2 (ji36)).f1) ((rd_T37 l0_2 (ji36)).f2) ((rd_T37 l0_2 (ji36)).f3) gb150 a2 gb160 (.slice Ao101 x161000_4.length co101) x161000_4 gb149 (#[.int .i64 a1_0, .int .i64 a1_1] : Array Value) gb151 (#[.int .i64 0, .int .i64 0, .slice none 0 0] : Array Value) gb168 (#[.int .i64 ((rd_T26 x161000_2 (ji71)).f0), .int .i64 ((rd_T26 x161000_2 (ji71)).f1)] : Array Value) t172 t175 w _ ?side1 ?side2 ?side3 ?side4 ?side5 ?side6 ?side7 ?side8 ?side9 ?side10 ?side11 ?side12 ?side13 ?side14 ?side15 ?side16 ?side17 ?side18 ?side19 ?side20 ?side21 ?side22 ?side23 ?side24 ?side25 ?side26 ?side27 ?side28 ?side29 ?side30 ?side31 ?side32 ?side33 ?side34 ?side35 ?side36 ?side37 ?side38 ?side39 ?side40 ?side41 ?side42 ?side43 ?side44 ?side45 ?side46 A98.out).mono ?_); (case side1 => exact zb0 HB); (case side2 => exact zk0 BK148); (case side3 => exact HR0_2.out); (case side4 => exact HC0_2.out); (case side5 => exact zk0 BK157); (case side6 => exact zr0 HO_158002); (case side7 => exact zk0 BK159); (case side8 => exact zk0 BK150); (case side9 => exact zk0 BK160); (case side10 => exact zr0 HO_161000); (case side11 => exact zk0 BK149); (case side12 => exact zk0 BK151); (case side13 => exact zk0 BK168); (case side14 => exact GE148.out); (case side15 => exact GE157.out); (case side16 => exact GE159.out); (case side17 => exact GE150.out); (case side18 => exact GE160.out); (case side19 => exact GE149.out); (case side20 => exact GE151.out); (case side21 => exact GE168.out); (case side22 => exact NB157_148.out); (case side23 => exact NB159_148.out); (case side24 => exact NB159_157.out); (case side25 => exact NB150_148.out); (case side26 => exact NB150_157.out); (case side27 => exact NB150_159.out); (case side28 => exact NB160_148.out); (case side29 => exact NB160_157.out); (case side30 => exact NB160_159.out); (case side31 => exact NB160_150.out); (case side32 => exact NB149_148.out); (case side33 => exact NB149_157.out); (case side34 => exact NB149_159.out); (case side35 => exact NB149_150.out); (case side36 => exact NB149_160.out); (case side37 => exact NB151_148.out); (case side38 => exact NB151_157.out); (case side39 => exact NB151_159.out); (case side40 => exact NB151_150.out); (case side41 => exact NB151_160.out); (case side42 => exact NB168_148.out); (case side43 => exact NB168_157.out); (case side44 => exact NB168_159.out); (case side45 => exact NB168_150.out); (case side46 => exact NB168_160.out); rintro e w102 ⟨v173, v176, rfl, hk0_, hk1_, hk2_, hk3_, hk4_, hk5_, hk6_, hk7_, ho0_, ho1_, hb⟩; refine ⟨_, rfl, ?_⟩; have n0_ := Aside0.mk (hk0_); have n1_ := Aside0.mk (hk5_); have n2_ := Aside0.mk (hk3_); have n3_ := Aside0.mk (hk6_); have n4_ := Aside0.mk (hk1_); have n5_ := Aside0.mk (hk2_); have n6_ := Aside0.mk (hk4_); have n7_ := Aside0.mk (hk7_); have n8_ := Aside0.mk (ho0_); have n9_ := Aside0.mk (ho1_); have n10_ := Aside0.mk (hb); clear BK148; clear BK149; clear BK150; clear BK151; clear BK157; clear BK159; clear BK160; clear BK168; clear HB; clear HO_158002; clear HO_161000; have BK148 := n0_; have BK149 := n1_; have BK150 := n2_; have BK151 := n3_; have BK157 := n4_; have BK159 := n5_; have BK160 := n6_; have BK168 := n7_; have HO174 := n8_; have HO177 := n9_; have HB := n10_; clear n0_ n1_ n2_ n3_ n4_ n5_ n6_ n7_ n8_ n9_ n10_; (try clear hb); (try clear hk0_); (try clear hk1_); (try clear hk2_); (try clear hk3_); (try clear hk4_); (try clear hk5_); (try clear hk6_); (try clear hk7_); (try clear ho0_); (try clear ho1_)))
                      first | go_roundg k4 | ((try subst hji71); (try subst hji36); go_roundg k4)
                      case measure => have := HJ6.out; have := HK2.out; have := HK3.out; have := HK4.out; omega
                      case rel => first | (exact ⟨(wrap64 (x17_4 + 1)), (t172), (t175), (v173), (v176), (by first | rfl | (simp; done) | (simp [*]; done)), H', ⟨by have := HJ6.out; have := HK2.out; have := HK3.out; have := HK4.out; omega⟩, ⟨by exact zr0 HO174⟩, ⟨by exact zr0 HO177⟩, ⟨by exact zk0 BK148⟩, ⟨by exact zk0 BK149⟩, ⟨by exact zk0 BK150⟩, ⟨by exact zk0 BK151⟩, ⟨by exact zk0 BK157⟩, ⟨by exact zk0 BK159⟩, ⟨by exact zk0 BK160⟩, ⟨by exact zk0 BK168⟩, ⟨by exact zb0 HB⟩⟩) | (exact ⟨(wrap64 (x17_4 + 1)), (t172), (t175), (v173), (v176), (by first | rfl | (simp; done) | (simp [*]; done)), H', ⟨by have := HJ6.out; have := HK2.out; have := HK3.out; have := HK4.out; omega⟩, ⟨by exact zr0 HO174⟩, ⟨by exact zr0 HO177⟩, ⟨by exact zk0 BK148⟩, ⟨by exact zk0 BK149⟩, ⟨by exact zk0 BK150⟩, ⟨by exact zk0 BK151⟩, ⟨by exact zk0 BK157⟩, ⟨by exact zk0 BK159⟩, ⟨by exact zk0 BK160⟩, ⟨by exact zk0 BK168⟩, ⟨by exact zb0 HB⟩⟩)
                     ·replace c97 := Bool.eq_false_iff.mpr c97
                      subst c97
                      have H1 : (if x17_4 = 0 then ((wand_Flood_1.f k4 (wrap64 (((rd_T26 x161000_2 (ji71)).f0) + x17_4)) (wrap64 (((rd_T26 x161000_2 (ji71)).f1) + x16_3)) a0_0 a0_1 l0_2 a0_0 a0_1 x158002_4 ((rd_T37 l0_2 (ji36)).f0) ((rd_T37 l0_2 (ji36)).f1) ((rd_T37 l0_2 (ji36)).f2) ((rd_T37 l0_2 (ji36)).f3) a2 x161000_4).bind fun bt178 => (wand_Flood.l2 k4 false x16_3 (wrap64 (x17_4 + 1)) a0_0 a0_1 l0_2 a2 a0_0 a0_1 bt178.1 ((rd_T37 l0_2 (ji36)).f0) ((rd_T37 l0_2 (ji36)).f1) ((rd_T37 l0_2 (ji36)).f2) ((rd_T37 l0_2 (ji36)).f3) bt178.2 ((rd_T26 x161000_2 (ji71)).f0) ((rd_T26 x161000_2 (ji71)).f1))) else (if x16_3 = 0 then ((wand_Flood_1.f k4 (wrap64 (((rd_T26 x161000_2 (ji71)).f0) + x17_4)) (wrap64 (((rd_T26 x161000_2 (ji71)).f1) + x16_3)) a0_0 a0_1 l0_2 a0_0 a0_1 x158002_4 ((rd_T37 l0_2 (ji36)).f0) ((rd_T37 l0_2 (ji36)).f1) ((rd_T37 l0_2 (ji36)).f2) ((rd_T37 l0_2 (ji36)).f3) a2 x161000_4).bind fun bt184 => (wand_Flood.l2 k4 false x16_3 (wrap64 (x17_4 + 1)) a0_0 a0_1 l0_2 a2 a0_0 a0_1 bt184.1 ((rd_T37 l0_2 (ji36)).f0) ((rd_T37 l0_2 (ji36)).f1) ((rd_T37 l0_2 (ji36)).f2) ((rd_T37 l0_2 (ji36)).f3) bt184.2 ((rd_T26 x161000_2 (ji71)).f0) ((rd_T26 x161000_2 (ji71)).f1))) else (wand_Flood.l2 k4 false x16_3 (wrap64 (x17_4 + 1)) a0_0 a0_1 l0_2 a2 a0_0 a0_1 x158002_4 ((rd_T37 l0_2 (ji36)).f0) ((rd_T37 l0_2 (ji36)).f1) ((rd_T37 l0_2 (ji36)).f2) ((rd_T37 l0_2 (ji36)).f3) x161000_4 ((rd_T26 x161000_2 (ji71)).f0) ((rd_T26 x161000_2 (ji71)).f1)))) = some (r1, r2, r3, r4) := by rw [if_neg (show ¬ (false = true) by decide)] at H; exact H
                      clear H
                      have H := H1
                      clear H1
                      by_cases c103 : x17_4 = 0
                      ·rw [if_pos c103] at H
                       have c103b0 : (x17_4 == 0) = true := beq_iff_eq.mpr c103
                       have c103b1 : (x17_4 != 0) = false := bne_eq_false_iff_eq.mpr c103
                       clear c103
                       replace H := Option.bind_eq_some_iff.mp H
                       obtain ⟨⟨t178, t181⟩, A1040, H⟩ := H
                       replace H : (wand_Flood.l2 k4 false x16_3 (wrap64 (x17_4 + 1)) a0_0 a0_1 l0_2 a2 a0_0 a0_1 t178 ((rd_T37 l0_2 (ji36)).f0) ((rd_T37 l0_2 (ji36)).f1) ((rd_T37 l0_2 (ji36)).f2) ((rd_T37 l0_2 (ji36)).f3) t181 ((rd_T26 x161000_2 (ji71)).f0) ((rd_T26 x161000_2 (ji71)).f1)) = some (r1, r2, r3, r4) := H
                       have A104 := Aside0.mk A1040
                       clear A1040
                       have H' := Aside0.mk H
                       clear H
                       obtain ⟨hcz105_0, hcz105_1, hfz105_0, hfz105_1⟩ := zq2 BK168
                       obtain ⟨Ao106, co106, eo106⟩ := Kd.R_slice HO_158002.out
                       subst eo106
                       obtain ⟨Ao107, co107, eo107⟩ := Kd.R_slice HO_161000.out
                       subst eo107
                       go_wp2_with (first | ((with_reducible refine gate_calleeT (t := 108) rfl ?_); refine goesLT_ (some 118) rfl rfl Try.func24 (by kernel_rfl) rfl #[.pointer (some ⟨gb148, 0, none⟩), .pointer (some ⟨gb157, 0, none⟩), .pointer (some ⟨gb159, 0, none⟩), .pointer (some ⟨gb150, 0, none⟩), .pointer (some ⟨gb160, 0, none⟩)] #[.agg #[.int .i64 (wrap64 (((rd_T26 x161000_2 (ji71)).f0) + x17_4)), .int .i64 (wrap64 (((rd_T26 x161000_2 (ji71)).f1) + x16_3))], .pointer (some ⟨gb148, 0, none⟩), .pointer (some ⟨gb157, 0, none⟩), .pointer (some ⟨gb159, 0, none⟩), .pointer (some ⟨gb150, 0, none⟩), .pointer (some ⟨gb160, 0, none⟩)] rfl (by first | rfl | (go_simp; done) | (go_simp; rfl)) (by (try simp only [List.map_toArray, List.map_cons, List.map_nil]); first | done | rfl | (go_simp; done) | (go_simp; rfl)) ?_; (with_reducible refine (wand_Flood_1.calls k4 (wrap64 (((rd_T26 x161000_2 (ji71)).f0) + x17_4)) (wrap64 (((rd_T26 x161000_2 (ji71)).f1) + x16_3)) gb148 a0_0 a0_1 (some ad158) c0_2 l0_2 gb157 a0_0 a0_1 (.slice Ao106 x158002_4.length co106) x158002_4 gb159 ((rd_T37 l0_2 (ji36)).f0) ((rd_T37 l0_2 (ji36)).f1) ((rd_T37 l0_2 (ji36)).f2) ((rd_T37 l0_2 (ji36)).f3) gb150 a2 gb160 (.slice Ao107 x161000_4.length co107) x161000_4 gb149 (#[.int .i64 a1_0, .int .i64 a1_1] : Array Value) gb151 (#[.int .i64 0, .int .i64 0, .slice none 0 0] : Array Value) gb168 (#[.int .i64 ((rd_T26 x161000_2 (ji71)).f0), .int .i64 ((rd_T26 x161000_2 (ji71)).f1)] : Array Value) t178 t181 w _ ?side1 ?side2 ?side3 ?side4 ?side5 ?side6 ?side7 ?side8 ?side9 ?side10 ?side11 ?side12 ?side13 ?side14 ?side15 ?side16 ?side17 ?side18 ?side19 ?side20 ?side21 ?side22 ?side23 ?side24 ?side25 ?side26 ?side27 ?side28 ?side29 ?side30 ?side31 ?side32 ?side33 ?side34 ?side35 ?side36 ?side37 ?side38 ?side39 ?side40 ?side41 ?side42 ?side43 ?side44 ?side45 ?side46 A104.out).mono ?_); (case side1 => exact zb0 HB); (case side2 => exact zk0 BK148); (case side3 => exact HR0_2.out); (case side4 => exact HC0_2.out); (case side5 => exact zk0 BK157); (case side6 => exact zr0 HO_158002); (case side7 => exact zk0 BK159); (case side8 => exact zk0 BK150); (case side9 => exact zk0 BK160); (case side10 => exact zr0 HO_161000); (case side11 => exact zk0 BK149); (case side12 => exact zk0 BK151); (case side13 => exact zk0 BK168); (case side14 => exact GE148.out); (case side15 => exact GE157.out); (case side16 => exact GE159.out); (case side17 => exact GE150.out); (case side18 => exact GE160.out); (case side19 => exact GE149.out); (case side20 => exact GE151.out); (case side21 => exact GE168.out); (case side22 => exact NB157_148.out); (case side23 => exact NB159_148.out); (case side24 => exact NB159_157.out); (case side25 => exact NB150_148.out); (case side26 => exact NB150_157.out); (case side27 => exact NB150_159.out); (case side28 => exact NB160_148.out); (case side29 => exact NB160_157.out); (case side30 => exact NB160_159.out); (case side31 => exact NB160_150.out); (case side32 => exact NB149_148.out); (case side33 => exact NB149_157.out); (case side34 => exact NB149_159.out); (case side35 => exact NB149_150.out); (case side36 => exact NB149_160.out); (case side37 => exact NB151_148.out); (case side38 => exact NB151_157.out); (case side39 => exact NB151_159.out); (case side40 => exact NB151_150.out); (case side41 => exact NB151_160.out); (case side42 => exact NB168_148.out); (case side43 => exact NB168_157.out); (case side44 => exact NB168_159.out); (case side45 => exact NB168_150.out); (case side46 => exact NB168_160.out); rintro e w108 ⟨v179, v182, rfl, hk0_, hk1_, hk2_, hk3_, hk4_, hk5_, hk6_, hk7_, ho0_, ho1_, hb⟩; refine ⟨_, rfl, ?_⟩; have n0_ := Aside0.mk (hk0_); have n1_ := Aside0.mk (hk5_); have n2_ := Aside0.mk (hk3_); have n3_ := Aside0.mk (hk6_); have n4_ := Aside0.mk (hk1_); have n5_ := Aside0.mk (hk2_); have n6_ := Aside0.mk (hk4_); have n7_ := Aside0.mk (hk7_); have n8_ := Aside0.mk (ho0_); have n9_ := Aside0.mk (ho1_); have n10_ := Aside0.mk (hb); clear BK148; clear BK149; clear BK150; clear BK151; clear BK157; clear BK159; clear BK160; clear BK168; clear HB; clear HO_158002; clear HO_161000; have BK148 := n0_; have BK149 := n1_; have BK150 := n2_; have BK151 := n3_; have BK157 := n4_; have BK159 := n5_; have BK160 := n6_; have BK168 := n7_; have HO180 := n8_; have HO183 := n9_; have HB := n10_; clear n0_ n1_ n2_ n3_ n4_ n5_ n6_ n7_ n8_ n9_ n10_; (try clear hb); (try clear hk0_); (try clear hk1_); (try clear hk2_); (try clear hk3_); (try clear hk4_); (try clear hk5_); (try clear hk6_); (try clear hk7_); (try clear ho0_); (try clear ho1_)))
                       first | go_roundg k4 | ((try subst hji71); (try subst hji36); go_roundg k4)
                       case measure => have := HJ6.out; have := HK2.out; have := HK3.out; have := HK4.out; omega
                       case rel => first | (exact ⟨(wrap64 (x17_4 + 1)), (t178), (t181), (v179), (v182), (by first | rfl | (simp; done) | (simp [*]; done)), H', ⟨by have := HJ6.out; have := HK2.out; have := HK3.out; have := HK4.out; omega⟩, ⟨by exact zr0 HO180⟩, ⟨by exact zr0 HO183⟩, ⟨by exact zk0 BK148⟩, ⟨by exact zk0 BK149⟩, ⟨by exact zk0 BK150⟩, ⟨by exact zk0 BK151⟩, ⟨by exact zk0 BK157⟩, ⟨by exact zk0 BK159⟩, ⟨by exact zk0 BK160⟩, ⟨by exact zk0 BK168⟩, ⟨by exact zb0 HB⟩⟩) | (exact ⟨(wrap64 (x17_4 + 1)), (t178), (t181), (v179), (v182), (by first | rfl | (simp; done) | (simp [*]; done)), H', ⟨by have := HJ6.out; have := HK2.out; have := HK3.out; have := HK4.out; omega⟩, ⟨by exact zr0 HO180⟩, ⟨by exact zr0 HO183⟩, ⟨by exact zk0 BK148⟩, ⟨by exact zk0 BK149⟩, ⟨by exact zk0 BK150⟩, ⟨by exact zk0 BK151⟩, ⟨by exact zk0 BK157⟩, ⟨by exact zk0 BK159⟩, ⟨by exact zk0 BK160⟩, ⟨by exact zk0 BK168⟩, ⟨by exact zb0 HB⟩⟩)
                      ·rw [if_neg c103] at H
                       have c103b0 : (x17_4 == 0) = false := beq_eq_false_iff_ne.mpr c103
                       have c103b1 : (x17_4 != 0) = true := bne_iff_ne.mpr c103
                       by_cases c109 : x16_3 = 0
                       ·rw [if_pos c109] at H
                        have c109b0 : (x16_3 == 0) = true := beq_iff_eq.mpr c109
                        have c109b1 : (x16_3 != 0) = false := bne_eq_false_iff_eq.mpr c109
                        clear c109
                        replace H := Option.bind_eq_some_iff.mp H
                        obtain ⟨⟨t184, t187⟩, A1100, H⟩ := H
                        replace H : (wand_Flood.l2 k4 false x16_3 (wrap64 (x17_4 + 1)) a0_0 a0_1 l0_2 a2 a0_0 a0_1 t184 ((rd_T37 l0_2 (ji36)).f0) ((rd_T37 l0_2 (ji36)).f1) ((rd_T37 l0_2 (ji36)).f2) ((rd_T37 l0_2 (ji36)).f3) t187 ((rd_T26 x161000_2 (ji71)).f0) ((rd_T26 x161000_2 (ji71)).f1)) = some (r1, r2, r3, r4) := H
                        have A110 := Aside0.mk A1100
                        clear A1100
                        have H' := Aside0.mk H
                        clear H
                        obtain ⟨hcz111_0, hcz111_1, hfz111_0, hfz111_1⟩ := zq2 BK168
                        obtain ⟨Ao112, co112, eo112⟩ := Kd.R_slice HO_158002.out
                        subst eo112
                        obtain ⟨Ao113, co113, eo113⟩ := Kd.R_slice HO_161000.out
                        subst eo113
                        go_wp2_with (first | ((with_reducible refine gate_calleeT (t := 108) rfl ?_); refine goesLT_ (some 118) rfl rfl Try.func24 (by kernel_rfl) rfl #[.pointer (some ⟨gb148, 0, none⟩), .pointer (some ⟨gb157, 0, none⟩), .pointer (some ⟨gb159, 0, none⟩), .pointer (some ⟨gb150, 0, none⟩), .pointer (some ⟨gb160, 0, none⟩)] #[.agg #[.int .i64 (wrap64 (((rd_T26 x161000_2 (ji71)).f0) + x17_4)), .int .i64 (wrap64 (((rd_T26 x161000_2 (ji71)).f1) + x16_3))], .pointer (some ⟨gb148, 0, none⟩), .pointer (some ⟨gb157, 0, none⟩), .pointer (some ⟨gb159, 0, none⟩), .pointer (some ⟨gb150, 0, none⟩), .pointer (some ⟨gb160, 0, none⟩)] rfl (by first | rfl | (go_simp; done) | (go_simp; rfl)) (by (try simp only [List.map_toArray, List.map_cons, List.map_nil]); first | done | rfl | (go_simp; done) | (go_simp; rfl)) ?_; (with_reducible refine (wand_Flood_1.calls k4 (wrap64 (((rd_T26 x161000_2 (ji71)).f0) + x17_4)) (wrap64 (((rd_T26 x161000_2 (ji71)).f1) + x16_3)) gb148 a0_0 a0_1 (some ad158) c0_2 l0_2 gb157 a0_0 a0_1 (.slice Ao112 x158002_4.length co112) x158002_4 gb159 ((rd_T37 l0_2 (ji36)).f0) ((rd_T37 l0_2 (ji36)).f1) ((rd_T37 l0_2 (ji36)).f2) ((rd_T37 l0_2 (ji36)).f3) gb150 a2 gb160 (.slice Ao113 x161000_4.length co113) x161000_4 gb149 (#[.int .i64 a1_0, .int .i64 a1_1] : Array Value) gb151 (#[.int .i64 0, .int .i64 0, .slice none 0 0] : Array Value) gb168 (#[.int .i64 ((rd_T26 x161000_2 (ji71)).f0), .int .i64 ((rd_T26 x161000_2 (ji71)).f1)] : Array Value) t184 t187 w _ ?side1 ?side2 ?side3 ?side4 ?side5 ?side6 ?side7 ?side8 ?side9 ?side10 ?side11 ?side12 ?side13 ?side14 ?side15 ?side16 ?side17 ?side18 ?side19 ?side20 ?side21 ?side22 ?side23 ?side24 ?side25 ?side26 ?side27 ?side28 ?side29 ?side30 ?side31 ?side32 ?side33 ?side34 ?side35 ?side36 ?side37 ?side38 ?side39 ?side40 ?side41 ?side42 ?side43 ?side44 ?side45 ?side46 A110.out).mono ?_); (case side1 => exact zb0 HB); (case side2 => exact zk0 BK148); (case side3 => exact HR0_2.out); (case side4 => exact HC0_2.out); (case side5 => exact zk0 BK157); (case side6 => exact zr0 HO_158002); (case side7 => exact zk0 BK159); (case side8 => exact zk0 BK150); (case side9 => exact zk0 BK160); (case side10 => exact zr0 HO_161000); (case side11 => exact zk0 BK149); (case side12 => exact zk0 BK151); (case side13 => exact zk0 BK168); (case side14 => exact GE148.out); (case side15 => exact GE157.out); (case side16 => exact GE159.out); (case side17 => exact GE150.out); (case side18 => exact GE160.out); (case side19 => exact GE149.out); (case side20 => exact GE151.out); (case side21 => exact GE168.out); (case side22 => exact NB157_148.out); (case side23 => exact NB159_148.out); (case side24 => exact NB159_157.out); (case side25 => exact NB150_148.out); (case side26 => exact NB150_157.out); (case side27 => exact NB150_159.out); (case side28 => exact NB160_148.out); (case side29 => exact NB160_157.out); (case side30 => exact NB160_159.out); (case side31 => exact NB160_150.out); (case side32 => exact NB149_148.out); (case side33 => exact NB149_157.out); (case side34 => exact NB149_159.out); (case side35 => exact NB149_150.out); (case side36 => exact NB149_160.out); (case side37 => exact NB151_148.out); (case side38 => exact NB151_157.out); (case side39 => exact NB151_159.out); (case side40 => exact NB151_150.out); (case side41 => exact NB151_160.out); (case side42 => exact NB168_148.out); (case side43 => exact NB168_157.out); (case side44 => exact NB168_159.out); (case side45 => exact NB168_150.out); (case side46 => exact NB168_160.out); rintro e w114 ⟨v185, v188, rfl, hk0_, hk1_, hk2_, hk3_, hk4_, hk5_, hk6_, hk7_, ho0_, ho1_, hb⟩; refine ⟨_, rfl, ?_⟩; have n0_ := Aside0.mk (hk0_); have n1_ := Aside0.mk (hk5_); have n2_ := Aside0.mk (hk3_); have n3_ := Aside0.mk (hk6_); have n4_ := Aside0.mk (hk1_); have n5_ := Aside0.mk (hk2_); have n6_ := Aside0.mk (hk4_); have n7_ := Aside0.mk (hk7_); have n8_ := Aside0.mk (ho0_); have n9_ := Aside0.mk (ho1_); have n10_ := Aside0.mk (hb); clear BK148; clear BK149; clear BK150; clear BK151; clear BK157; clear BK159; clear BK160; clear BK168; clear HB; clear HO_158002; clear HO_161000; have BK148 := n0_; have BK149 := n1_; have BK150 := n2_; have BK151 := n3_; have BK157 := n4_; have BK159 := n5_; have BK160 := n6_; have BK168 := n7_; have HO186 := n8_; have HO189 := n9_; have HB := n10_; clear n0_ n1_ n2_ n3_ n4_ n5_ n6_ n7_ n8_ n9_ n10_; (try clear hb); (try clear hk0_); (try clear hk1_); (try clear hk2_); (try clear hk3_); (try clear hk4_); (try clear hk5_); (try clear hk6_); (try clear hk7_); (try clear ho0_); (try clear ho1_)))
                        first | go_roundg k4 | ((try subst hji71); (try subst hji36); go_roundg k4)
                        case measure => have := HJ6.out; have := HK2.out; have := HK3.out; have := HK4.out; omega
                        case rel => first | (exact ⟨(wrap64 (x17_4 + 1)), (t184), (t187), (v185), (v188), (by first | rfl | (simp; done) | (simp [*]; done)), H', ⟨by have := HJ6.out; have := HK2.out; have := HK3.out; have := HK4.out; omega⟩, ⟨by exact zr0 HO186⟩, ⟨by exact zr0 HO189⟩, ⟨by exact zk0 BK148⟩, ⟨by exact zk0 BK149⟩, ⟨by exact zk0 BK150⟩, ⟨by exact zk0 BK151⟩, ⟨by exact zk0 BK157⟩, ⟨by exact zk0 BK159⟩, ⟨by exact zk0 BK160⟩, ⟨by exact zk0 BK168⟩, ⟨by exact zb0 HB⟩⟩) | (exact ⟨(wrap64 (x17_4 + 1)), (t184), (t187), (v185), (v188), (by first | rfl | (simp; done) | (simp [*]; done)), H', ⟨by have := HJ6.out; have := HK2.out; have := HK3.out; have := HK4.out; omega⟩, ⟨by exact zr0 HO186⟩, ⟨by exact zr0 HO189⟩, ⟨by exact zk0 BK148⟩, ⟨by exact zk0 BK149⟩, ⟨by exact zk0 BK150⟩, ⟨by exact zk0 BK151⟩, ⟨by exact zk0 BK157⟩, ⟨by exact zk0 BK159⟩, ⟨by exact zk0 BK160⟩, ⟨by exact zk0 BK168⟩, ⟨by exact zb0 HB⟩⟩)
                       ·rw [if_neg c109] at H
                        have c109b0 : (x16_3 == 0) = false := beq_eq_false_iff_ne.mpr c109
                        have c109b1 : (x16_3 != 0) = true := bne_iff_ne.mpr c109
                        have H' := Aside0.mk H
                        clear H
                        go_wp2
                        first | go_roundg k4 | ((try subst hji71); (try subst hji36); go_roundg k4)
                        case measure => have := HJ6.out; have := HK2.out; have := HK3.out; have := HK4.out; omega
                        case rel => first | (exact ⟨(wrap64 (x17_4 + 1)), (x158002_4), (x161000_4), (u158002), (u161000), (by first | rfl | (simp; done) | (simp [*]; done)), H', ⟨by have := HJ6.out; have := HK2.out; have := HK3.out; have := HK4.out; omega⟩, ⟨by exact zr0 HO_158002⟩, ⟨by exact zr0 HO_161000⟩, ⟨by exact zk0 BK148⟩, ⟨by exact zk0 BK149⟩, ⟨by exact zk0 BK150⟩, ⟨by exact zk0 BK151⟩, ⟨by exact zk0 BK157⟩, ⟨by exact zk0 BK159⟩, ⟨by exact zk0 BK160⟩, ⟨by exact zk0 BK168⟩, ⟨by exact zb0 HB⟩⟩) | (exact ⟨(wrap64 (x17_4 + 1)), (x158002_4), (x161000_4), (u158002), (u161000), (by first | rfl | (simp; done) | (simp [*]; done)), H', ⟨by have := HJ6.out; have := HK2.out; have := HK3.out; have := HK4.out; omega⟩, ⟨by exact zr0 HO_158002⟩, ⟨by exact zr0 HO_161000⟩, ⟨by exact zk0 BK148⟩, ⟨by exact zk0 BK149⟩, ⟨by exact zk0 BK150⟩, ⟨by exact zk0 BK151⟩, ⟨by exact zk0 BK157⟩, ⟨by exact zk0 BK159⟩, ⟨by exact zk0 BK160⟩, ⟨by exact zk0 BK168⟩, ⟨by exact zb0 HB⟩⟩)
                    ·rw [if_neg c96] at H
                     have c96b0 : decide (x17_4 ≤ 1) = false := decide_eq_false c96
                     clear c96
                     have H' := Aside0.mk H
                     clear H
                     go_wp2
                     first | go_roundg k4 | ((try subst hji71); (try subst hji36); go_roundg k4)
                     case measure => have := HJ6.out; have := HK2.out; have := HK3.out; have := HK4.out; omega
                     case rel => first | (exact ⟨(wrap64 (x16_3 + 1)), (x158002_4), (x161000_4), (u158002), (u161000), (by first | rfl | (simp; done) | (simp [*]; done)), H', ⟨by have := HJ6.out; have := HK2.out; have := HK3.out; have := HK4.out; omega⟩, ⟨by exact zr0 HO_158002⟩, ⟨by exact zr0 HO_161000⟩, ⟨by exact zk0 BK148⟩, ⟨by exact zk0 BK149⟩, ⟨by exact zk0 BK150⟩, ⟨by exact zk0 BK151⟩, ⟨by exact zk0 BK157⟩, ⟨by exact zk0 BK159⟩, ⟨by exact zk0 BK160⟩, ⟨by exact zk0 BK168⟩, ⟨by exact zb0 HB⟩⟩) | (exact ⟨(wrap64 (x16_3 + 1)), (x158002_4), (x161000_4), (u158002), (u161000), (by first | rfl | (simp; done) | (simp [*]; done)), H', ⟨by have := HJ6.out; have := HK2.out; have := HK3.out; have := HK4.out; omega⟩, ⟨by exact zr0 HO_158002⟩, ⟨by exact zr0 HO_161000⟩, ⟨by exact zk0 BK148⟩, ⟨by exact zk0 BK149⟩, ⟨by exact zk0 BK150⟩, ⟨by exact zk0 BK151⟩, ⟨by exact zk0 BK157⟩, ⟨by exact zk0 BK159⟩, ⟨by exact zk0 BK160⟩, ⟨by exact zk0 BK168⟩, ⟨by exact zb0 HB⟩⟩)
                 ·rw [if_neg c95] at H
                  have c95b0 : decide (x16_3 ≤ 1) = false := decide_eq_false c95
                  clear c95
                  have H' := Aside0.mk H
                  clear H
                  go_wp2
                  first | go_roundg k3 | ((try subst hji71); (try subst hji36); go_roundg k3)
                  case measure => have := HJ6.out; have := HK2.out; have := HK3.out; omega
                  case rel => first | (exact ⟨(x158002_3), (x161000_3), (u158002), (u161000), H', ⟨by have := HJ6.out; have := HK2.out; have := HK3.out; omega⟩, ⟨by exact zr0 HO_158002⟩, ⟨by (with_reducible repeat (first | apply Kd.R_alloc | apply Kd.R_drewN | apply Kd.R_drew)); exact Kd.R_mono HO_161000.out (fun _ hk => hk.1)⟩, ⟨by exact zk0 BK148⟩, ⟨by exact zk0 BK149⟩, ⟨by exact zk0 BK150⟩, ⟨by exact zk0 BK151⟩, ⟨by exact zk0 BK157⟩, ⟨by exact zk0 BK159⟩, ⟨by exact zk0 BK160⟩, ⟨by exact zb0 HB⟩⟩) | (exact ⟨(x158002_3), (x161000_3), (u158002), (u161000), H', ⟨by have := HJ6.out; have := HK2.out; have := HK3.out; omega⟩, ⟨by exact zr0 HO_158002⟩, ⟨by (with_reducible repeat (first | apply Kd.R_alloc | apply Kd.R_drewN | apply Kd.R_drew)); exact Kd.R_mono HO_161000.out (fun _ hk => hk.1)⟩, ⟨by exact zk0 BK148⟩, ⟨by exact zk0 BK149⟩, ⟨by exact zk0 BK150⟩, ⟨by exact zk0 BK151⟩, ⟨by exact zk0 BK157⟩, ⟨by exact zk0 BK159⟩, ⟨by exact zk0 BK160⟩, ⟨by exact zb0 HB⟩⟩)
              ·rw [if_neg c74] at H
               exact absurd H (by simp)
             ·rw [if_neg c73] at H
              exact absurd H (by simp)
            ·rw [if_neg c72] at H
             exact absurd H (by simp)
           ·rw [if_neg c70] at H
            have c70b0 : decide (0 < (x161000_2.length : Int)) = false := decide_eq_false c70
            have c70b1 : decide (0 < x161000_2.length) = false := decide_eq_false (by omega)
            clear c70
            simp only [Option.some.injEq, Prod.mk.injEq] at H
            obtain ⟨rfl, rfl, rfl, rfl⟩ := H
            have hnb115 := NB160_148.out
            have hnc115 := NB148_160.out
            have hnb116 := NB160_149.out
            have hnc116 := NB149_160.out
            have hnb117 := NB160_150.out
            have hnc117 := NB150_160.out
            have hnb118 := NB160_151.out
            have hnc118 := NB151_160.out
            have hnb119 := NB160_157.out
            have hnc119 := NB157_160.out
            have hnb120 := NB160_159.out
            have hnc120 := NB159_160.out
            obtain ⟨hcz121_0, hfz121_0⟩ := zq1 BK160
            obtain ⟨Ao122, co122, eo122⟩ := Kd.R_slice HO_161000.out
            subst eo122
            have hnb123 := NB157_148.out
            have hnc123 := NB148_157.out
            have hnb124 := NB157_149.out
            have hnc124 := NB149_157.out
            have hnb125 := NB157_150.out
            have hnc125 := NB150_157.out
            have hnb126 := NB157_151.out
            have hnc126 := NB151_157.out
            have hnb127 := NB157_159.out
            have hnc127 := NB159_157.out
            obtain ⟨hcz128_0, hcz128_1, hcz128_2, hfz128_0, hfz128_1, hfz128_2⟩ := zq3 BK157
            have hnb129 := NB151_148.out
            have hnc129 := NB148_151.out
            have hnb130 := NB151_149.out
            have hnc130 := NB149_151.out
            have hnb131 := NB151_150.out
            have hnc131 := NB150_151.out
            have hnb132 := NB151_159.out
            have hnc132 := NB159_151.out
            obtain ⟨hcz133_0, hcz133_1, hcz133_2, hfz133_0, hfz133_1, hfz133_2⟩ := zq3 BK151
            obtain ⟨Ao134, co134, eo134⟩ := Kd.R_slice HO_158002.out
            subst eo134
            go_wp2
            refine bodyPost_ret (results_ct rfl _ _ gb151 29 #[.int .i64 a0_0, .int .i64 a0_1, .slice Ao134 x158002_2.length co134] (0, 0) _ rfl (by exact zp BK151 rfl) Try.underlying29 rfl (by kernel_rfl)) rfl ?_
            exact ⟨_, by first | rfl | (simp [errW_none, errW_some] <;> rfl) | (simp only [← hji36]; first | rfl | (simp [errW_none, errW_some] <;> rfl)) | (simp [*, errW_none, errW_some] <;> rfl), by (with_reducible repeat (first | apply Kd.R_alloc | apply Kd.R_drewN | apply Kd.R_drew)); exact Kd.R_mono (Kd.R_far (p := ⟨gb151, 2, none⟩) (Kd.R_far (p := ⟨gb151, 1, none⟩) (Kd.R_far (p := ⟨gb151, 0, none⟩) (Kd.R_types HO_158002.out BK151.out (by decide)) (fun _ hk => hk.2) (.int .i64 a0_0)) (fun _ hk => hk.2) (.int .i64 a0_1)) (fun _ hk => hk.2) (.slice Ao134 x158002_2.length co134)) (fun _ hk => trivial), by exact zbo HB GE151⟩
        ·rw [if_neg c38] at H
         exact absurd H (by simp)
       ·rw [if_neg c37] at H
        exact absurd H (by simp)
      ·rw [if_neg c35] at H
       exact absurd H (by simp)
     ·rw [if_neg c34] at H
      exact absurd H (by simp)
 ·rw [if_neg c6] at H
  have c6b0 : (t152 == 0) = false := beq_eq_false_iff_ne.mpr c6
  have c6b1 : (t152 != 0) = true := bne_iff_ne.mpr c6
  simp only [Option.some.injEq, Prod.mk.injEq] at H
  obtain ⟨rfl, rfl, rfl, rfl⟩ := H
  go_enter Try.func9, Try.ntmps9
  go_wp2_with (first | ((with_reducible refine gate_dst (N := 4) rfl ?_); refine box_event ?hg (N := 4) ?hd (cs := #[.int .i64 a0_0, .int .i64 a0_1, .slice A0_2 l0_2.length c0_2]) (t := 24) ?hr ?_; (case hd => rfl); (case hg => rfl); (case hr => first | (go_simp; done) | (go_simp; rfl)); intro gb148 hg w135 hbox hb; have GW148 := zg HB hg; have GE148 := zg HB hg; have n0_ := Aside0.mk (hbox); replace HB := zb HB hb; have BK148 := n0_; clear n0_; clear hb hbox hg) | ((with_reducible refine gate_dst (N := 5) rfl ?_); refine box_event ?hg (N := 5) ?hd (cs := #[.int .i64 a1_0, .int .i64 a1_1]) (t := 26) ?hr ?_; (case hd => rfl); (case hg => rfl); (case hr => first | (go_simp; done) | (go_simp; rfl)); intro gb149 hg w136 hbox hb; have GW149 := zg HB hg; have GE149 := zg HB hg; have NB148_149 := zn BK148 hg; have NB149_148 := zn' BK148 hg; have n0_ := Aside0.mk (hbox); replace BK148 := zk BK148 hb; replace HB := zb HB hb; have BK149 := n0_; clear n0_; clear hb hbox hg) | ((with_reducible refine gate_dst (N := 6) rfl ?_); refine box_event ?hg (N := 6) ?hd (cs := #[.int .i64 a2]) (t := 3) ?hr ?_; (case hd => rfl); (case hg => rfl); (case hr => first | (go_simp; done) | (go_simp; rfl)); intro gb150 hg w137 hbox hb; have GW150 := zg HB hg; have GE150 := zg HB hg; have NB148_150 := zn BK148 hg; have NB150_148 := zn' BK148 hg; have NB149_150 := zn BK149 hg; have NB150_149 := zn' BK149 hg; have n0_ := Aside0.mk (hbox); replace BK148 := zk BK148 hb; replace BK149 := zk BK149 hb; replace HB := zb HB hb; have BK150 := n0_; clear n0_; clear hb hbox hg) | ((with_reducible refine gate_dst (N := 8) rfl ?_); refine box_event ?hg (N := 8) ?hd (cs := #[.int .i64 0, .int .i64 0, .slice none 0 0]) (t := 29) ?hr ?_; (case hd => rfl); (case hg => rfl); (case hr => first | (go_simp; done) | (go_simp; rfl)); intro gb151 hg w138 hbox hb; have GW151 := zg HB hg; have GE151 := zg HB hg; have NB148_151 := zn BK148 hg; have NB151_148 := zn' BK148 hg; have NB149_151 := zn BK149 hg; have NB151_149 := zn' BK149 hg; have NB150_151 := zn BK150 hg; have NB151_150 := zn' BK150 hg; have n0_ := Aside0.mk (hbox); replace BK148 := zk BK148 hb; replace BK149 := zk BK149 hb; replace BK150 := zk BK150 hb; replace HB := zb HB hb; have BK151 := n0_; clear n0_; clear hb hbox hg; have hnb139 := NB148_149.out; have hnc139 := NB149_148.out; have hnb140 := NB148_150.out; have hnc140 := NB150_148.out; have hnb141 := NB148_151.out; have hnc141 := NB151_148.out; obtain ⟨hcz142_0, hcz142_1, hcz142_2, hfz142_0, hfz142_1, hfz142_2⟩ := zq3 BK148) | ((with_reducible refine gate_callee (f := 22) rfl ?_); refine goesL_ (some 19) rfl rfl Try.func22 (by kernel_rfl) rfl #[.agg #[.int .i64 a0_0, .int .i64 a0_1, .slice A0_2 l0_2.length c0_2]] rfl (by (try simp only [List.map_toArray, List.map_cons, List.map_nil]); first | done | rfl | (simp only [List.length_drop, List.length_take]; rfl)) ?_; (with_reducible refine (raster_Check.calls k a0_0 a0_1 _ _ l0_2 t152 _ ?side1 ?side2 A5.out).mono ?_); (case side1 => repeat (first | exact (Kd.C_below HR0_2.out HB.out) | (with_reducible refine Kd.C_alloc ?_ _) | (with_reducible refine Kd.C_drewN ?_ _) | (with_reducible refine Kd.C_drew ?_))); (case side2 => exact HC0_2.out); rintro e w143 ⟨rfl, hb⟩; refine ⟨_, rfl, ?_⟩; replace BK148 := zk BK148 hb; replace BK149 := zk BK149 hb; replace BK150 := zk BK150 hb; replace BK151 := zk BK151 hb; replace HB := zb HB hb; (try clear hb); (try clear hb2); (try clear hk); (try clear hi); have hnb144 := NB151_149.out; have hnc144 := NB149_151.out; have hnb145 := NB151_150.out; have hnc145 := NB150_151.out; obtain ⟨hcz146_0, hcz146_1, hcz146_2, hfz146_0, hfz146_1, hfz146_2⟩ := zq3 BK151))
  refine bodyPost_ret (results_ct rfl _ _ gb151 29 #[.int .i64 0, .int .i64 0, .slice none 0 0] (0, 0) _ rfl (by exact zp BK151 rfl) Try.underlying29 rfl (by kernel_rfl)) rfl ?_
  exact ⟨_, by first | rfl | (simp [errW_none, errW_some] <;> rfl) | (simp [*, errW_none, errW_some] <;> rfl), by first | exact Kd.R_nil _ _ _ _ _ | exact Kd.N_nil _ _ _ _ _ | exact Kd.V_nil _ _ _ _ _ | exact Kd.Q_nil _ _ _ _ _ | exact Kd.S_nil _ _ _ _ _, by exact zbo HB GE151⟩

end Go.Proofs.Ytmmncannibnklaa.G
