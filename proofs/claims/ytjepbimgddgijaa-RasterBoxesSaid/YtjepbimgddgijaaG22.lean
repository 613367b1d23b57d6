/- Contracts of functions of the program, each as it is called: what it computes (.f), that it computes no less with more rounds (.mono), and that a call returns just that (.calls). No conditions but those that each contract names. Written by a program of this session (wip/gx.py over the kit's print). -/
import Derived.Test.YtjepbimgddgijaaG0
import Derived.Test.YtjepbimgddgijaaG1
import Derived.Test.YtjepbimgddgijaaG8
import Derived.Test.YtjepbimgddgijaaG10
import Derived.Test.YtjepbimgddgijaaG21
namespace Go.Proofs.Ytjepbimgddgijaa.G
open Go.RowKit Go.Proofs.YtjepbimgddgijaaW.PrintWords Go.Proofs.YtjepbimgddgijaaW.PrintLast Go.Proofs.YtjepbimgddgijaaW.PrintMore
attribute [local go_sem] max2_int min2_int max_two min_two max_three min_three max_four min_four   -- for this text's walks alone
set_option linter.unusedVariables false
set_option linter.unusedSimpArgs false


attribute [local go_sem high] eqA37
/-! ### imageeditorlaw11_RasterBoxes: function 13 -/
mutual
def imageeditorlaw11_RasterBoxes.j0 : Nat → Bool → Int → Int → List (S26) → Option (Bool)
 | 0, _, _, _, _ => none
 | k + 1, x23, x493000, x493001, x493002 => if x23 = true then ((imageeditorlaw11_awake.f k).bind fun t496 => (some t496)) else ((raster_Box.f k x493000 x493001 x493002).bind fun bt497 => (if bt497.1 < 0 then (imageeditorlaw11_RasterBoxes.j1 k true x493000 x493001 x493002 bt497.1 bt497.2.1 bt497.2.2.1 bt497.2.2.2) else (if bt497.2.1 < 0 then (imageeditorlaw11_RasterBoxes.j1 k true x493000 x493001 x493002 bt497.1 bt497.2.1 bt497.2.2.1 bt497.2.2.2) else (if bt497.2.2.1 < 0 then (imageeditorlaw11_RasterBoxes.j1 k true x493000 x493001 x493002 bt497.1 bt497.2.1 bt497.2.2.1 bt497.2.2.2) else (if bt497.2.2.2 < 0 then (imageeditorlaw11_RasterBoxes.j1 k true x493000 x493001 x493002 bt497.1 bt497.2.1 bt497.2.2.1 bt497.2.2.2) else (if bt497.2.2.1 > x493000 then (imageeditorlaw11_RasterBoxes.j1 k true x493000 x493001 x493002 bt497.1 bt497.2.1 bt497.2.2.1 bt497.2.2.2) else (if bt497.2.2.2 > x493001 then (imageeditorlaw11_RasterBoxes.j1 k true x493000 x493001 x493002 bt497.1 bt497.2.1 bt497.2.2.1 bt497.2.2.2) else (if bt497.1 > (wrap64 (x493000 - bt497.2.2.1)) then (imageeditorlaw11_RasterBoxes.j1 k true x493000 x493001 x493002 bt497.1 bt497.2.1 bt497.2.2.1 bt497.2.2.2) else (imageeditorlaw11_RasterBoxes.j1 k (decide (bt497.2.1 > (wrap64 (x493001 - bt497.2.2.2)))) x493000 x493001 x493002 bt497.1 bt497.2.1 bt497.2.2.1 bt497.2.2.2)))))))))
def imageeditorlaw11_RasterBoxes.j1 : Nat → Bool → Int → Int → List (S26) → Int → Int → Int → Int → Option (Bool)
 | 0, _, _, _, _, _, _, _, _ => none
 | k + 1, x78, x493000, x493001, x493002, x502000, x502001, x502002, x502003 => if x78 = true then (some false) else (imageeditorlaw11_RasterBoxes.l0 k false false false false x493002 (x493002.length : Int) 0 x493000 x493001 x493002 x502000 x502001 x502002 x502003)
def imageeditorlaw11_RasterBoxes.l0 : Nat → Bool → Bool → Bool → Bool → List (S26) → Int → Int → Int → Int → List (S26) → Int → Int → Int → Int → Option (Bool)
 | 0, _, _, _, _, _, _, _, _, _, _, _, _, _, _ => none
 | k + 1, x4, x5, x6, x7, x80, x81, x82, x493000, x493001, x493002, x502000, x502001, x502002, x502003 => if x82 < x81 then (if 0 ≤ x82 then (if x82 < (x80.length : Int) then (if x493000 = 0 then (none) else (if ((rd_T26 x80 x82).f3) = 0 then (imageeditorlaw11_RasterBoxes.l0 k x4 x5 x6 x7 x80 x81 (wrap64 (x82 + 1)) x493000 x493001 x493002 x502000 x502001 x502002 x502003) else (if (Int.tmod x82 x493000) < x502000 then (imageeditorlaw11_RasterBoxes.j3 k x4 x5 x6 x7 (Int.tmod x82 x493000) (wrap64 (Int.tdiv x82 x493000)) x80 x81 x82 true x493000 x493001 x493002 x502000 x502001 x502002 x502003) else (if (Int.tmod x82 x493000) ≥ (wrap64 (x502000 + x502002)) then (imageeditorlaw11_RasterBoxes.j3 k x4 x5 x6 x7 (Int.tmod x82 x493000) (wrap64 (Int.tdiv x82 x493000)) x80 x81 x82 true x493000 x493001 x493002 x502000 x502001 x502002 x502003) else (if (wrap64 (Int.tdiv x82 x493000)) < x502001 then (imageeditorlaw11_RasterBoxes.j3 k x4 x5 x6 x7 (Int.tmod x82 x493000) (wrap64 (Int.tdiv x82 x493000)) x80 x81 x82 true x493000 x493001 x493002 x502000 x502001 x502002 x502003) else (imageeditorlaw11_RasterBoxes.j3 k x4 x5 x6 x7 (Int.tmod x82 x493000) (wrap64 (Int.tdiv x82 x493000)) x80 x81 x82 (decide ((wrap64 (Int.tdiv x82 x493000)) ≥ (wrap64 (x502001 + x502003)))) x493000 x493001 x493002 x502000 x502001 x502002 x502003)))))) else (none)) else (none)) else (if (x502000 == 0 && (x502001 == 0 && (x502002 == 0 && (x502003 == 0)))) = true then (some true) else (if x4 = true then (if x5 = true then (if x6 = true then (some x7) else (some false)) else (some false)) else (some false)))
def imageeditorlaw11_RasterBoxes.j3 : Nat → Bool → Bool → Bool → Bool → Int → Int → List (S26) → Int → Int → Bool → Int → Int → List (S26) → Int → Int → Int → Int → Option (Bool)
 | 0, _, _, _, _, _, _, _, _, _, _, _, _, _, _, _, _, _ => none
 | k + 1, x4, x5, x6, x7, x10, x11, x80, x81, x82, x125, x493000, x493001, x493002, x502000, x502001, x502002, x502003 => if x125 = true then (some false) else (if x4 = true then (if x5 = true then (if x6 = true then (if x7 = true then (imageeditorlaw11_RasterBoxes.l0 k true true true true x80 x81 (wrap64 (x82 + 1)) x493000 x493001 x493002 x502000 x502001 x502002 x502003) else (imageeditorlaw11_RasterBoxes.l0 k true true true (x11 == (wrap64 ((wrap64 (x502001 + x502003)) - 1))) x80 x81 (wrap64 (x82 + 1)) x493000 x493001 x493002 x502000 x502001 x502002 x502003)) else (if x7 = true then (imageeditorlaw11_RasterBoxes.l0 k true true (x11 == x502001) true x80 x81 (wrap64 (x82 + 1)) x493000 x493001 x493002 x502000 x502001 x502002 x502003) else (imageeditorlaw11_RasterBoxes.l0 k true true (x11 == x502001) (x11 == (wrap64 ((wrap64 (x502001 + x502003)) - 1))) x80 x81 (wrap64 (x82 + 1)) x493000 x493001 x493002 x502000 x502001 x502002 x502003))) else (if x6 = true then (if x7 = true then (imageeditorlaw11_RasterBoxes.l0 k true (x10 == (wrap64 ((wrap64 (x502000 + x502002)) - 1))) true true x80 x81 (wrap64 (x82 + 1)) x493000 x493001 x493002 x502000 x502001 x502002 x502003) else (imageeditorlaw11_RasterBoxes.l0 k true (x10 == (wrap64 ((wrap64 (x502000 + x502002)) - 1))) true (x11 == (wrap64 ((wrap64 (x502001 + x502003)) - 1))) x80 x81 (wrap64 (x82 + 1)) x493000 x493001 x493002 x502000 x502001 x502002 x502003)) else (if x7 = true then (imageeditorlaw11_RasterBoxes.l0 k true (x10 == (wrap64 ((wrap64 (x502000 + x502002)) - 1))) (x11 == x502001) true x80 x81 (wrap64 (x82 + 1)) x493000 x493001 x493002 x502000 x502001 x502002 x502003) else (imageeditorlaw11_RasterBoxes.l0 k true (x10 == (wrap64 ((wrap64 (x502000 + x502002)) - 1))) (x11 == x502001) (x11 == (wrap64 ((wrap64 (x502001 + x502003)) - 1))) x80 x81 (wrap64 (x82 + 1)) x493000 x493001 x493002 x502000 x502001 x502002 x502003)))) else (if x5 = true then (if x6 = true then (if x7 = true then (imageeditorlaw11_RasterBoxes.l0 k (x10 == x502000) true true true x80 x81 (wrap64 (x82 + 1)) x493000 x493001 x493002 x502000 x502001 x502002 x502003) else (imageeditorlaw11_RasterBoxes.l0 k (x10 == x502000) true true (x11 == (wrap64 ((wrap64 (x502001 + x502003)) - 1))) x80 x81 (wrap64 (x82 + 1)) x493000 x493001 x493002 x502000 x502001 x502002 x502003)) else (if x7 = true then (imageeditorlaw11_RasterBoxes.l0 k (x10 == x502000) true (x11 == x502001) true x80 x81 (wrap64 (x82 + 1)) x493000 x493001 x493002 x502000 x502001 x502002 x502003) else (imageeditorlaw11_RasterBoxes.l0 k (x10 == x502000) true (x11 == x502001) (x11 == (wrap64 ((wrap64 (x502001 + x502003)) - 1))) x80 x81 (wrap64 (x82 + 1)) x493000 x493001 x493002 x502000 x502001 x502002 x502003))) else (if x6 = true then (if x7 = true then (imageeditorlaw11_RasterBoxes.l0 k (x10 == x502000) (x10 == (wrap64 ((wrap64 (x502000 + x502002)) - 1))) true true x80 x81 (wrap64 (x82 + 1)) x493000 x493001 x493002 x502000 x502001 x502002 x502003) else (imageeditorlaw11_RasterBoxes.l0 k (x10 == x502000) (x10 == (wrap64 ((wrap64 (x502000 + x502002)) - 1))) true (x11 == (wrap64 ((wrap64 (x502001 + x502003)) - 1))) x80 x81 (wrap64 (x82 + 1)) x493000 x493001 x493002 x502000 x502001 x502002 x502003)) else (if x7 = true then (imageeditorlaw11_RasterBoxes.l0 k (x10 == x502000) (x10 == (wrap64 ((wrap64 (x502000 + x502002)) - 1))) (x11 == x502001) true x80 x81 (wrap64 (x82 + 1)) x493000 x493001 x493002 x502000 x502001 x502002 x502003) else (imageeditorlaw11_RasterBoxes.l0 k (x10 == x502000) (x10 == (wrap64 ((wrap64 (x502000 + x502002)) - 1))) (x11 == x502001) (x11 == (wrap64 ((wrap64 (x502001 + x502003)) - 1))) x80 x81 (wrap64 (x82 + 1)) x493000 x493001 x493002 x502000 x502001 x502002 x502003)))))
end
def imageeditorlaw11_RasterBoxes.f (k : Nat) (a0_0 : Int) (a0_1 : Int) (l0_2 : List (S26)) : Option (Bool) := (imageeditorlaw11_awake.f k).bind fun t493 => (if t493 = true then ((raster_Check.f k a0_0 a0_1 l0_2).bind fun t494 => (if t494 = 0 then ((imageeditorlaw11_full.f a0_0 a0_1 l0_2).bind fun t495 => (imageeditorlaw11_RasterBoxes.j0 k (!t495) a0_0 a0_1 l0_2)) else (imageeditorlaw11_RasterBoxes.j0 k true a0_0 a0_1 l0_2))) else (imageeditorlaw11_RasterBoxes.j0 k true a0_0 a0_1 l0_2))
theorem imageeditorlaw11_RasterBoxes.mono_l : ∀ k, (∀ y0 y1 y2 y3, LeO (imageeditorlaw11_RasterBoxes.j0 k y0 y1 y2 y3) (imageeditorlaw11_RasterBoxes.j0 (k + 1) y0 y1 y2 y3)) ∧ (∀ y0 y1 y2 y3 y4 y5 y6 y7, LeO (imageeditorlaw11_RasterBoxes.j1 k y0 y1 y2 y3 y4 y5 y6 y7) (imageeditorlaw11_RasterBoxes.j1 (k + 1) y0 y1 y2 y3 y4 y5 y6 y7)) ∧ (∀ y0 y1 y2 y3 y4 y5 y6 y7 y8 y9 y10 y11 y12 y13, LeO (imageeditorlaw11_RasterBoxes.l0 k y0 y1 y2 y3 y4 y5 y6 y7 y8 y9 y10 y11 y12 y13) (imageeditorlaw11_RasterBoxes.l0 (k + 1) y0 y1 y2 y3 y4 y5 y6 y7 y8 y9 y10 y11 y12 y13)) ∧ (∀ y0 y1 y2 y3 y4 y5 y6 y7 y8 y9 y10 y11 y12 y13 y14 y15 y16, LeO (imageeditorlaw11_RasterBoxes.j3 k y0 y1 y2 y3 y4 y5 y6 y7 y8 y9 y10 y11 y12 y13 y14 y15 y16) (imageeditorlaw11_RasterBoxes.j3 (k + 1) y0 y1 y2 y3 y4 y5 y6 y7 y8 y9 y10 y11 y12 y13 y14 y15 y16))
 | 0 => ⟨fun _ _ _ _ r h => by simp [imageeditorlaw11_RasterBoxes.j0] at h, fun _ _ _ _ _ _ _ _ r h => by simp [imageeditorlaw11_RasterBoxes.j1] at h, fun _ _ _ _ _ _ _ _ _ _ _ _ _ _ r h => by simp [imageeditorlaw11_RasterBoxes.l0] at h, fun _ _ _ _ _ _ _ _ _ _ _ _ _ _ _ _ _ r h => by simp [imageeditorlaw11_RasterBoxes.j3] at h⟩
 | k + 1 => by
  obtain ⟨ih0, ih1, ih2, ih3⟩ := imageeditorlaw11_RasterBoxes.mono_l k
  refine ⟨?_, ?_, ?_, ?_⟩
  ·intro y0 y1 y2 y3
   unfold imageeditorlaw11_RasterBoxes.j0
   repeat' first
   | (with_reducible exact ih0 _ _ _ _)
   | (with_reducible exact ih1 _ _ _ _ _ _ _ _)
   | (with_reducible exact ih2 _ _ _ _ _ _ _ _ _ _ _ _ _ _)
   | (with_reducible exact ih3 _ _ _ _ _ _ _ _ _ _ _ _ _ _ _ _ _)
   | (with_reducible exact imageeditorlaw11_awake.mono _)
   | (with_reducible exact raster_Box.mono _ _ _ _)
   | (with_reducible exact raster_Check.mono _ _ _ _)
   | (with_reducible exact LeO.refl _)
   | (with_reducible exact LeO.none _)
   | (with_reducible refine LeO.ite ?_ ?_)
   | (with_reducible refine LeO.bind ?_ (fun _ => ?_))
   | exact ih0 _ _ _ _
   | exact ih1 _ _ _ _ _ _ _ _
   | exact ih2 _ _ _ _ _ _ _ _ _ _ _ _ _ _
   | exact ih3 _ _ _ _ _ _ _ _ _ _ _ _ _ _ _ _ _
   | exact imageeditorlaw11_awake.mono _
   | exact raster_Box.mono _ _ _ _
   | exact raster_Check.mono _ _ _ _
   | exact LeO.none _
   | refine LeO.ite ?_ ?_
   | refine LeO.bind ?_ (fun _ => ?_)
  ·intro y0 y1 y2 y3 y4 y5 y6 y7
   unfold imageeditorlaw11_RasterBoxes.j1
   repeat' first
   | (with_reducible exact ih0 _ _ _ _)
   | (with_reducible exact ih1 _ _ _ _ _ _ _ _)
   | (with_reducible exact ih2 _ _ _ _ _ _ _ _ _ _ _ _ _ _)
   | (with_reducible exact ih3 _ _ _ _ _ _ _ _ _ _ _ _ _ _ _ _ _)
   | (with_reducible exact imageeditorlaw11_awake.mono _)
   | (with_reducible exact raster_Box.mono _ _ _ _)
   | (with_reducible exact raster_Check.mono _ _ _ _)
   | (with_reducible exact LeO.refl _)
   | (with_reducible exact LeO.none _)
   | (with_reducible refine LeO.ite ?_ ?_)
   | (with_reducible refine LeO.bind ?_ (fun _ => ?_))
   | exact ih0 _ _ _ _
   | exact ih1 _ _ _ _ _ _ _ _
   | exact ih2 _ _ _ _ _ _ _ _ _ _ _ _ _ _
   | exact ih3 _ _ _ _ _ _ _ _ _ _ _ _ _ _ _ _ _
   | exact imageeditorlaw11_awake.mono _
   | exact raster_Box.mono _ _ _ _
   | exact raster_Check.mono _ _ _ _
   | exact LeO.none _
   | refine LeO.ite ?_ ?_
   | refine LeO.bind ?_ (fun _ => ?_)
  ·intro y0 y1 y2 y3 y4 y5 y6 y7 y8 y9 y10 y11 y12 y13
   unfold imageeditorlaw11_RasterBoxes.l0
   repeat' first
   | (with_reducible exact ih0 _ _ _ _)
   | (with_reducible exact ih1 _ _ _ _ _ _ _ _)
   | (with_reducible exact ih2 _ _ _ _ _ _ _ _ _ _ _ _ _ _)
   | (with_reducible exact ih3 _ _ _ _ _ _ _ _ _ _ _ _ _ _ _ _ _)
   | (with_reducible exact imageeditorlaw11_awake.mono _)
   | (with_reducible exact raster_Box.mono _ _ _ _)
   | (with_reducible exact raster_Check.mono _ _ _ _)
   | (with_reducible exact LeO.refl _)
   | (with_reducible exact LeO.none _)
   | (with_reducible refine LeO.ite ?_ ?_)
   | (with_reducible refine LeO.bind ?_ (fun _ => ?_))
   | exact ih0 _ _ _ _
   | exact ih1 _ _ _ _ _ _ _ _
   | exact ih2 _ _ _ _ _ _ _ _ _ _ _ _ _ _
   | exact ih3 _ _ _ _ _ _ _ _ _ _ _ _ _ _ _ _ _
   | exact imageeditorlaw11_awake.mono _
   | exact raster_Box.mono _ _ _ _
   | exact raster_Check.mono _ _ _ _
   | exact LeO.none _
   | refine LeO.ite ?_ ?_
   | refine LeO.bind ?_ (fun _ => ?_)
  ·intro y0 y1 y2 y3 y4 y5 y6 y7 y8 y9 y10 y11 y12 y13 y14 y15 y16
   unfold imageeditorlaw11_RasterBoxes.j3
   repeat' first
   | (with_reducible exact ih0 _ _ _ _)
   | (with_reducible exact ih1 _ _ _ _ _ _ _ _)
   | (with_reducible exact ih2 _ _ _ _ _ _ _ _ _ _ _ _ _ _)
   | (with_reducible exact ih3 _ _ _ _ _ _ _ _ _ _ _ _ _ _ _ _ _)
   | (with_reducible exact imageeditorlaw11_awake.mono _)
   | (with_reducible exact raster_Box.mono _ _ _ _)
   | (with_reducible exact raster_Check.mono _ _ _ _)
   | (with_reducible exact LeO.refl _)
   | (with_reducible exact LeO.none _)
   | (with_reducible refine LeO.ite ?_ ?_)
   | (with_reducible refine LeO.bind ?_ (fun _ => ?_))
   | exact ih0 _ _ _ _
   | exact ih1 _ _ _ _ _ _ _ _
   | exact ih2 _ _ _ _ _ _ _ _ _ _ _ _ _ _
   | exact ih3 _ _ _ _ _ _ _ _ _ _ _ _ _ _ _ _ _
   | exact imageeditorlaw11_awake.mono _
   | exact raster_Box.mono _ _ _ _
   | exact raster_Check.mono _ _ _ _
   | exact LeO.none _
   | refine LeO.ite ?_ ?_
   | refine LeO.bind ?_ (fun _ => ?_)
theorem imageeditorlaw11_RasterBoxes.mono : ∀ a0 a1 a2 k, LeO (imageeditorlaw11_RasterBoxes.f k a0 a1 a2) (imageeditorlaw11_RasterBoxes.f (k + 1) a0 a1 a2) := by
 intro a0 a1 a2 k
 obtain ⟨ih0, ih1, ih2, ih3⟩ := imageeditorlaw11_RasterBoxes.mono_l k
 unfold imageeditorlaw11_RasterBoxes.f
 repeat' first
   | (with_reducible exact ih0 _ _ _ _)
   | (with_reducible exact ih1 _ _ _ _ _ _ _ _)
   | (with_reducible exact ih2 _ _ _ _ _ _ _ _ _ _ _ _ _ _)
   | (with_reducible exact ih3 _ _ _ _ _ _ _ _ _ _ _ _ _ _ _ _ _)
   | (with_reducible exact imageeditorlaw11_awake.mono _)
   | (with_reducible exact raster_Box.mono _ _ _ _)
   | (with_reducible exact raster_Check.mono _ _ _ _)
   | (with_reducible exact LeO.refl _)
   | (with_reducible exact LeO.none _)
   | (with_reducible refine LeO.ite ?_ ?_)
   | (with_reducible refine LeO.bind ?_ (fun _ => ?_))
   | exact ih0 _ _ _ _
   | exact ih1 _ _ _ _ _ _ _ _
   | exact ih2 _ _ _ _ _ _ _ _ _ _ _ _ _ _
   | exact ih3 _ _ _ _ _ _ _ _ _ _ _ _ _ _ _ _ _
   | exact imageeditorlaw11_awake.mono _
   | exact raster_Box.mono _ _ _ _
   | exact raster_Check.mono _ _ _ _
   | exact LeO.none _
   | refine LeO.ite ?_ ?_
   | refine LeO.bind ?_ (fun _ => ?_)
set_option maxHeartbeats 8000000 in
set_option maxRecDepth 100000 in
theorem imageeditorlaw11_RasterBoxes.callsT (k : Nat) (a0_0 : Int) (a0_1 : Int) (A0_2 : Option Addr) (c0_2 : Nat) (l0_2 : List (S26)) (r : Bool) (w : World) (hr0_2 : Kd.C k26 w A0_2 l0_2.length l0_2) (hc0_2 : l0_2.length ≤ c0_2) (hT : r = true) (h : imageeditorlaw11_RasterBoxes.f k a0_0 a0_1 l0_2 = some r) :
  Calls Try.prog 13 #[.agg #[.int .i64 a0_0, .int .i64 a0_1, .slice A0_2 l0_2.length c0_2]] w fun e w' => e = .returned (.bool r) ∧ Below w.heap.size w w' := by
 have hu24 := Try.underlying24
 have hu37 := Try.underlying37
 have hu26 := Try.underlying26
 have HT := Aside0.mk hT
 clear hT
 have HR0_2 := Aside0.mk hr0_2
 have HC0_2 := Aside0.mk hc0_2
 clear hr0_2 hc0_2
 have HB := Aside0.mk (Below.refl w.heap.size w)
 have H : ((imageeditorlaw11_awake.f k).bind fun t493 => (if t493 = true then ((raster_Check.f k a0_0 a0_1 l0_2).bind fun t494 => (if t494 = 0 then ((imageeditorlaw11_full.f a0_0 a0_1 l0_2).bind fun t495 => (imageeditorlaw11_RasterBoxes.j0 k (!t495) a0_0 a0_1 l0_2)) else (imageeditorlaw11_RasterBoxes.j0 k true a0_0 a0_1 l0_2))) else (imageeditorlaw11_RasterBoxes.j0 k true a0_0 a0_1 l0_2))) = some r := h
 clear h
 have HC2 := Aside0.mk H
 clear H
 go_enter Try.func13, Try.ntmps13
 go_upto_region 1 with (first | ((with_reducible refine gate_dst (N := 1) rfl ?_); refine box_event ?hg (N := 1) ?hd (cs := #[.int .i64 a0_0, .int .i64 a0_1, .slice A0_2 l0_2.length c0_2]) (t := 24) ?hr ?_; (case hd => rfl); (case hg => rfl); (case hr => first | (go_simp; done) | (go_simp; rfl)); intro gb492 hg w3 hbox hb; have GW492 := zg HB hg; have GE492 := zg HB hg; have n0_ := Aside0.mk (hbox); replace HB := zb HB hb; have BK492 := n0_; clear n0_; clear hb hbox hg))
 repeat (go_quiet (first | ((with_reducible refine gate_dst (N := 1) rfl ?_); refine box_event ?hg (N := 1) ?hd (cs := #[.int .i64 a0_0, .int .i64 a0_1, .slice A0_2 l0_2.length c0_2]) (t := 24) ?hr ?_; (case hd => rfl); (case hg => rfl); (case hr => first | (go_simp; done) | (go_simp; rfl)); intro gb492 hg w3 hbox hb; have GW492 := zg HB hg; have GE492 := zg HB hg; have n0_ := Aside0.mk (hbox); replace HB := zb HB hb; have BK492 := n0_; clear n0_; clear hb hbox hg)); go_upto_region 1 with (first | ((with_reducible refine gate_dst (N := 1) rfl ?_); refine box_event ?hg (N := 1) ?hd (cs := #[.int .i64 a0_0, .int .i64 a0_1, .slice A0_2 l0_2.length c0_2]) (t := 24) ?hr ?_; (case hd => rfl); (case hg => rfl); (case hr => first | (go_simp; done) | (go_simp; rfl)); intro gb492 hg w3 hbox hb; have GW492 := zg HB hg; have GE492 := zg HB hg; have n0_ := Aside0.mk (hbox); replace HB := zb HB hb; have BK492 := n0_; clear n0_; clear hb hbox hg)))
 (try simp only [Act.put, sA, sB, sC])
 go_cut [23] (fun v23 wc => ∃ (kq : Nat) (x23_1 : Bool), v23 = .bool x23_1 ∧ Aside0 (imageeditorlaw11_RasterBoxes.j0 kq x23_1 a0_0 a0_1 l0_2 = some r) ∧ Aside0 (kq ≤ k) ∧ Aside0 (wc.heap[gb492]? = some (.cells #[.int .i64 a0_0, .int .i64 a0_1, (.slice A0_2 l0_2.length c0_2)] 24 (0, 0))) ∧ Aside0 (Below w.heap.size w wc))
 case first =>
  have H := HC2.out
  clear HC2
  replace H := Option.bind_eq_some_iff.mp H
  obtain ⟨t493, A40, H⟩ := H
  replace H : (if t493 = true then ((raster_Check.f k a0_0 a0_1 l0_2).bind fun t494 => (if t494 = 0 then ((imageeditorlaw11_full.f a0_0 a0_1 l0_2).bind fun t495 => (imageeditorlaw11_RasterBoxes.j0 k (!t495) a0_0 a0_1 l0_2)) else (imageeditorlaw11_RasterBoxes.j0 k true a0_0 a0_1 l0_2))) else (imageeditorlaw11_RasterBoxes.j0 k true a0_0 a0_1 l0_2)) = some r := H
  have A4 := Aside0.mk A40
  clear A40
  by_cases c5 : t493 = true
  ·subst c5
   have H1 : ((raster_Check.f k a0_0 a0_1 l0_2).bind fun t494 => (if t494 = 0 then ((imageeditorlaw11_full.f a0_0 a0_1 l0_2).bind fun t495 => (imageeditorlaw11_RasterBoxes.j0 k (!t495) a0_0 a0_1 l0_2)) else (imageeditorlaw11_RasterBoxes.j0 k true a0_0 a0_1 l0_2))) = some r := by rw [if_pos rfl] at H; exact H
   clear H
   have H := H1
   clear H1
   replace H := Option.bind_eq_some_iff.mp H
   obtain ⟨t494, A60, H⟩ := H
   replace H : (if t494 = 0 then ((imageeditorlaw11_full.f a0_0 a0_1 l0_2).bind fun t495 => (imageeditorlaw11_RasterBoxes.j0 k (!t495) a0_0 a0_1 l0_2)) else (imageeditorlaw11_RasterBoxes.j0 k true a0_0 a0_1 l0_2)) = some r := H
   have A6 := Aside0.mk A60
   clear A60
   by_cases c7 : t494 = 0
   ·rw [if_pos c7] at H
    have c7b0 : (t494 == 0) = true := beq_iff_eq.mpr c7
    have c7b1 : (t494 != 0) = false := bne_eq_false_iff_eq.mpr c7
    clear c7
    (first | rw [c7b0] | (simp only [i64_w, i32_w]; rw [c7b0]) | skip)
    replace H := Option.bind_eq_some_iff.mp H
    obtain ⟨t495, A80, H⟩ := H
    replace H : (imageeditorlaw11_RasterBoxes.j0 k (!t495) a0_0 a0_1 l0_2) = some r := H
    have A8 := Aside0.mk A80
    clear A80
    as_aux_lemma =>
     have H' := Aside0.mk H
     clear H
     go_wp2_with (first | (go_at_call 17; (with_reducible refine (imageeditorlaw11_awake.calls k  true _ A4.out).mono ?_); rintro e w9 ⟨rfl, hb⟩; replace BK492 := zk BK492 hb; replace HB := zb HB hb; (try clear hb); (try clear hb2); (try clear hk); (try clear hi); obtain ⟨hcz10_0, hcz10_1, hcz10_2, hfz10_0, hfz10_1, hfz10_2⟩ := zq3 BK492) | (go_at_call 18; (with_reducible refine (raster_Check.calls k a0_0 a0_1 _ _ l0_2 t494 _ ?side1 ?side2 A6.out).mono ?_); (case side1 => repeat (first | exact (Kd.C_below HR0_2.out HB.out) | (with_reducible refine Kd.C_alloc ?_ _) | (with_reducible refine Kd.C_drewN ?_ _) | (with_reducible refine Kd.C_drew ?_))); (case side2 => exact HC0_2.out); rintro e w11 ⟨rfl, hb⟩; replace BK492 := zk BK492 hb; replace HB := zb HB hb; (try clear hb); (try clear hb2); (try clear hk); (try clear hi); obtain ⟨hcz12_0, hcz12_1, hcz12_2, hfz12_0, hfz12_1, hfz12_2⟩ := zq3 BK492) | (go_at_call 37; (with_reducible refine (imageeditorlaw11_full.calls a0_0 a0_1 _ _ l0_2 t495 _ ?side1 ?side2 A8.out).mono ?_); (case side1 => repeat (first | exact (Kd.C_below HR0_2.out HB.out) | (with_reducible refine Kd.C_alloc ?_ _) | (with_reducible refine Kd.C_drewN ?_ _) | (with_reducible refine Kd.C_drew ?_))); (case side2 => exact HC0_2.out); rintro e w13 ⟨rfl, hb⟩; replace BK492 := zk BK492 hb; replace HB := zb HB hb; (try clear hb); (try clear hb2); (try clear hk); (try clear hi)))
     repeat (go_quiet (first | (go_at_call 17; (with_reducible refine (imageeditorlaw11_awake.calls k  true _ A4.out).mono ?_); rintro e w9 ⟨rfl, hb⟩; replace BK492 := zk BK492 hb; replace HB := zb HB hb; (try clear hb); (try clear hb2); (try clear hk); (try clear hi); obtain ⟨hcz10_0, hcz10_1, hcz10_2, hfz10_0, hfz10_1, hfz10_2⟩ := zq3 BK492) | (go_at_call 18; (with_reducible refine (raster_Check.calls k a0_0 a0_1 _ _ l0_2 t494 _ ?side1 ?side2 A6.out).mono ?_); (case side1 => repeat (first | exact (Kd.C_below HR0_2.out HB.out) | (with_reducible refine Kd.C_alloc ?_ _) | (with_reducible refine Kd.C_drewN ?_ _) | (with_reducible refine Kd.C_drew ?_))); (case side2 => exact HC0_2.out); rintro e w11 ⟨rfl, hb⟩; replace BK492 := zk BK492 hb; replace HB := zb HB hb; (try clear hb); (try clear hb2); (try clear hk); (try clear hi); obtain ⟨hcz12_0, hcz12_1, hcz12_2, hfz12_0, hfz12_1, hfz12_2⟩ := zq3 BK492) | (go_at_call 37; (with_reducible refine (imageeditorlaw11_full.calls a0_0 a0_1 _ _ l0_2 t495 _ ?side1 ?side2 A8.out).mono ?_); (case side1 => repeat (first | exact (Kd.C_below HR0_2.out HB.out) | (with_reducible refine Kd.C_alloc ?_ _) | (with_reducible refine Kd.C_drewN ?_ _) | (with_reducible refine Kd.C_drew ?_))); (case side2 => exact HC0_2.out); rintro e w13 ⟨rfl, hb⟩; replace BK492 := zk BK492 hb; replace HB := zb HB hb; (try clear hb); (try clear hb2); (try clear hk); (try clear hi))); try go_wp2_with (first | (go_at_call 17; (with_reducible refine (imageeditorlaw11_awake.calls k  true _ A4.out).mono ?_); rintro e w9 ⟨rfl, hb⟩; replace BK492 := zk BK492 hb; replace HB := zb HB hb; (try clear hb); (try clear hb2); (try clear hk); (try clear hi); obtain ⟨hcz10_0, hcz10_1, hcz10_2, hfz10_0, hfz10_1, hfz10_2⟩ := zq3 BK492) | (go_at_call 18; (with_reducible refine (raster_Check.calls k a0_0 a0_1 _ _ l0_2 t494 _ ?side1 ?side2 A6.out).mono ?_); (case side1 => repeat (first | exact (Kd.C_below HR0_2.out HB.out) | (with_reducible refine Kd.C_alloc ?_ _) | (with_reducible refine Kd.C_drewN ?_ _) | (with_reducible refine Kd.C_drew ?_))); (case side2 => exact HC0_2.out); rintro e w11 ⟨rfl, hb⟩; replace BK492 := zk BK492 hb; replace HB := zb HB hb; (try clear hb); (try clear hb2); (try clear hk); (try clear hi); obtain ⟨hcz12_0, hcz12_1, hcz12_2, hfz12_0, hfz12_1, hfz12_2⟩ := zq3 BK492) | (go_at_call 37; (with_reducible refine (imageeditorlaw11_full.calls a0_0 a0_1 _ _ l0_2 t495 _ ?side1 ?side2 A8.out).mono ?_); (case side1 => repeat (first | exact (Kd.C_below HR0_2.out HB.out) | (with_reducible refine Kd.C_alloc ?_ _) | (with_reducible refine Kd.C_drewN ?_ _) | (with_reducible refine Kd.C_drew ?_))); (case side2 => exact HC0_2.out); rintro e w13 ⟨rfl, hb⟩; replace BK492 := zk BK492 hb; replace HB := zb HB hb; (try clear hb); (try clear hb2); (try clear hk); (try clear hi))))
     go_meet
     case rel => exact ⟨_, (!t495), (by first | rfl | (simp; done) | (simp [*]; done)), H', ⟨by first | omega | exact Nat.le_refl _⟩, ⟨by exact zk0 BK492⟩, ⟨by exact zb0 HB⟩⟩
   ·rw [if_neg c7] at H
    have c7b0 : (t494 == 0) = false := beq_eq_false_iff_ne.mpr c7
    have c7b1 : (t494 != 0) = true := bne_iff_ne.mpr c7
    (first | rw [c7b0] | (simp only [i64_w, i32_w]; rw [c7b0]) | skip)
    as_aux_lemma =>
     have H' := Aside0.mk H
     clear H
     go_wp2_with (first | (go_at_call 17; (with_reducible refine (imageeditorlaw11_awake.calls k  true _ A4.out).mono ?_); rintro e w14 ⟨rfl, hb⟩; replace BK492 := zk BK492 hb; replace HB := zb HB hb; (try clear hb); (try clear hb2); (try clear hk); (try clear hi); obtain ⟨hcz15_0, hcz15_1, hcz15_2, hfz15_0, hfz15_1, hfz15_2⟩ := zq3 BK492) | (go_at_call 18; (with_reducible refine (raster_Check.calls k a0_0 a0_1 _ _ l0_2 t494 _ ?side1 ?side2 A6.out).mono ?_); (case side1 => repeat (first | exact (Kd.C_below HR0_2.out HB.out) | (with_reducible refine Kd.C_alloc ?_ _) | (with_reducible refine Kd.C_drewN ?_ _) | (with_reducible refine Kd.C_drew ?_))); (case side2 => exact HC0_2.out); rintro e w16 ⟨rfl, hb⟩; replace BK492 := zk BK492 hb; replace HB := zb HB hb; (try clear hb); (try clear hb2); (try clear hk); (try clear hi)))
     repeat (go_quiet (first | (go_at_call 17; (with_reducible refine (imageeditorlaw11_awake.calls k  true _ A4.out).mono ?_); rintro e w14 ⟨rfl, hb⟩; replace BK492 := zk BK492 hb; replace HB := zb HB hb; (try clear hb); (try clear hb2); (try clear hk); (try clear hi); obtain ⟨hcz15_0, hcz15_1, hcz15_2, hfz15_0, hfz15_1, hfz15_2⟩ := zq3 BK492) | (go_at_call 18; (with_reducible refine (raster_Check.calls k a0_0 a0_1 _ _ l0_2 t494 _ ?side1 ?side2 A6.out).mono ?_); (case side1 => repeat (first | exact (Kd.C_below HR0_2.out HB.out) | (with_reducible refine Kd.C_alloc ?_ _) | (with_reducible refine Kd.C_drewN ?_ _) | (with_reducible refine Kd.C_drew ?_))); (case side2 => exact HC0_2.out); rintro e w16 ⟨rfl, hb⟩; replace BK492 := zk BK492 hb; replace HB := zb HB hb; (try clear hb); (try clear hb2); (try clear hk); (try clear hi))); try go_wp2_with (first | (go_at_call 17; (with_reducible refine (imageeditorlaw11_awake.calls k  true _ A4.out).mono ?_); rintro e w14 ⟨rfl, hb⟩; replace BK492 := zk BK492 hb; replace HB := zb HB hb; (try clear hb); (try clear hb2); (try clear hk); (try clear hi); obtain ⟨hcz15_0, hcz15_1, hcz15_2, hfz15_0, hfz15_1, hfz15_2⟩ := zq3 BK492) | (go_at_call 18; (with_reducible refine (raster_Check.calls k a0_0 a0_1 _ _ l0_2 t494 _ ?side1 ?side2 A6.out).mono ?_); (case side1 => repeat (first | exact (Kd.C_below HR0_2.out HB.out) | (with_reducible refine Kd.C_alloc ?_ _) | (with_reducible refine Kd.C_drewN ?_ _) | (with_reducible refine Kd.C_drew ?_))); (case side2 => exact HC0_2.out); rintro e w16 ⟨rfl, hb⟩; replace BK492 := zk BK492 hb; replace HB := zb HB hb; (try clear hb); (try clear hb2); (try clear hk); (try clear hi))))
     go_meet
     case rel => exact ⟨_, (true), (by first | rfl | (simp; done) | (simp [*]; done)), H', ⟨by first | omega | exact Nat.le_refl _⟩, ⟨by exact zk0 BK492⟩, ⟨by exact zb0 HB⟩⟩
  ·replace c5 := Bool.eq_false_iff.mpr c5
   subst c5
   have H1 : (imageeditorlaw11_RasterBoxes.j0 k true a0_0 a0_1 l0_2) = some r := by rw [if_neg (show ¬ (false = true) by decide)] at H; exact H
   clear H
   have H := H1
   clear H1
   as_aux_lemma =>
    have H' := Aside0.mk H
    clear H
    go_wp2_with (first | (go_at_call 17; (with_reducible refine (imageeditorlaw11_awake.calls k  false _ A4.out).mono ?_); rintro e w17 ⟨rfl, hb⟩; replace BK492 := zk BK492 hb; replace HB := zb HB hb; (try clear hb); (try clear hb2); (try clear hk); (try clear hi)))
    repeat (go_quiet (first | (go_at_call 17; (with_reducible refine (imageeditorlaw11_awake.calls k  false _ A4.out).mono ?_); rintro e w17 ⟨rfl, hb⟩; replace BK492 := zk BK492 hb; replace HB := zb HB hb; (try clear hb); (try clear hb2); (try clear hk); (try clear hi))); try go_wp2_with (first | (go_at_call 17; (with_reducible refine (imageeditorlaw11_awake.calls k  false _ A4.out).mono ?_); rintro e w17 ⟨rfl, hb⟩; replace BK492 := zk BK492 hb; replace HB := zb HB hb; (try clear hb); (try clear hb2); (try clear hk); (try clear hi))))
    go_meet
    case rel => exact ⟨_, (true), (by first | rfl | (simp; done) | (simp [*]; done)), H', ⟨by first | omega | exact Nat.le_refl _⟩, ⟨by exact zk0 BK492⟩, ⟨by exact zb0 HB⟩⟩
 case rest =>
  clear HC2
  try clear c1
  try clear p2
  try clear q3
  try clear c5
  try clear c7
  try clear c7b0
  try clear c7b1
  try clear c13
  try clear hcz10_0
  try clear hcz10_1
  try clear hcz10_2
  try clear hcz12_0
  try clear hcz12_1
  try clear hcz12_2
  try clear hcz15_0
  try clear hcz15_1
  try clear hcz15_2
  try clear hfz10_0
  try clear hfz10_1
  try clear hfz10_2
  try clear hfz12_0
  try clear hfz12_1
  try clear hfz12_2
  try clear hfz15_0
  try clear hfz15_1
  try clear hfz15_2
  obtain ⟨kq, x23_1, rfl, HA, HJ1, BK492, HB⟩ := hcut
  cases kq with
  | zero => exact absurd HA.out (by simp [imageeditorlaw11_RasterBoxes.j0])
  | succ kj1 =>
   have H := HA.out
   clear HA
   simp only [imageeditorlaw11_RasterBoxes.j0] at H
   by_cases c18 : x23_1 = true
   ·subst c18
    have H1 : ((imageeditorlaw11_awake.f kj1).bind fun t496 => (some t496)) = some r := by rw [if_pos rfl] at H; exact H
    clear H
    have H := H1
    clear H1
    replace H := Option.bind_eq_some_iff.mp H
    obtain ⟨t496, A190, H⟩ := H
    replace H : (some t496) = some r := H
    have A19 := Aside0.mk A190
    clear A190
    as_aux_lemma =>
     obtain rfl := Option.some.inj H
     (try clear BK492)
     go_wp2_with (first | (go_at_call 17; (with_reducible refine (imageeditorlaw11_awake.calls kj1  t496 _ A19.out).mono ?_); rintro e w20 ⟨rfl, hb⟩; replace HB := zb HB hb; (try clear hb); (try clear hb2); (try clear hk); (try clear hi)))
     repeat (go_quiet (first | (go_at_call 17; (with_reducible refine (imageeditorlaw11_awake.calls kj1  t496 _ A19.out).mono ?_); rintro e w20 ⟨rfl, hb⟩; replace HB := zb HB hb; (try clear hb); (try clear hb2); (try clear hk); (try clear hi))); try go_wp2_with (first | (go_at_call 17; (with_reducible refine (imageeditorlaw11_awake.calls kj1  t496 _ A19.out).mono ?_); rintro e w20 ⟨rfl, hb⟩; replace HB := zb HB hb; (try clear hb); (try clear hb2); (try clear hk); (try clear hi))))
     go_ret
     exact ⟨by first | rfl | (simp [errW_none, errW_some] <;> rfl) | (simp [*, errW_none, errW_some] <;> rfl), by exact zb0 HB⟩
   ·replace c18 := Bool.eq_false_iff.mpr c18
    subst c18
    have H1 : ((raster_Box.f kj1 a0_0 a0_1 l0_2).bind fun bt497 => (if bt497.1 < 0 then (imageeditorlaw11_RasterBoxes.j1 kj1 true a0_0 a0_1 l0_2 bt497.1 bt497.2.1 bt497.2.2.1 bt497.2.2.2) else (if bt497.2.1 < 0 then (imageeditorlaw11_RasterBoxes.j1 kj1 true a0_0 a0_1 l0_2 bt497.1 bt497.2.1 bt497.2.2.1 bt497.2.2.2) else (if bt497.2.2.1 < 0 then (imageeditorlaw11_RasterBoxes.j1 kj1 true a0_0 a0_1 l0_2 bt497.1 bt497.2.1 bt497.2.2.1 bt497.2.2.2) else (if bt497.2.2.2 < 0 then (imageeditorlaw11_RasterBoxes.j1 kj1 true a0_0 a0_1 l0_2 bt497.1 bt497.2.1 bt497.2.2.1 bt497.2.2.2) else (if bt497.2.2.1 > a0_0 then (imageeditorlaw11_RasterBoxes.j1 kj1 true a0_0 a0_1 l0_2 bt497.1 bt497.2.1 bt497.2.2.1 bt497.2.2.2) else (if bt497.2.2.2 > a0_1 then (imageeditorlaw11_RasterBoxes.j1 kj1 true a0_0 a0_1 l0_2 bt497.1 bt497.2.1 bt497.2.2.1 bt497.2.2.2) else (if bt497.1 > (wrap64 (a0_0 - bt497.2.2.1)) then (imageeditorlaw11_RasterBoxes.j1 kj1 true a0_0 a0_1 l0_2 bt497.1 bt497.2.1 bt497.2.2.1 bt497.2.2.2) else (imageeditorlaw11_RasterBoxes.j1 kj1 (decide (bt497.2.1 > (wrap64 (a0_1 - bt497.2.2.2)))) a0_0 a0_1 l0_2 bt497.1 bt497.2.1 bt497.2.2.1 bt497.2.2.2))))))))) = some r := by rw [if_neg (show ¬ (false = true) by decide)] at H; exact H
    clear H
    have H := H1
    clear H1
    replace H := Option.bind_eq_some_iff.mp H
    obtain ⟨⟨t497, t498, t499, t500⟩, A210, H⟩ := H
    replace H : (if t497 < 0 then (imageeditorlaw11_RasterBoxes.j1 kj1 true a0_0 a0_1 l0_2 t497 t498 t499 t500) else (if t498 < 0 then (imageeditorlaw11_RasterBoxes.j1 kj1 true a0_0 a0_1 l0_2 t497 t498 t499 t500) else (if t499 < 0 then (imageeditorlaw11_RasterBoxes.j1 kj1 true a0_0 a0_1 l0_2 t497 t498 t499 t500) else (if t500 < 0 then (imageeditorlaw11_RasterBoxes.j1 kj1 true a0_0 a0_1 l0_2 t497 t498 t499 t500) else (if t499 > a0_0 then (imageeditorlaw11_RasterBoxes.j1 kj1 true a0_0 a0_1 l0_2 t497 t498 t499 t500) else (if t500 > a0_1 then (imageeditorlaw11_RasterBoxes.j1 kj1 true a0_0 a0_1 l0_2 t497 t498 t499 t500) else (if t497 > (wrap64 (a0_0 - t499)) then (imageeditorlaw11_RasterBoxes.j1 kj1 true a0_0 a0_1 l0_2 t497 t498 t499 t500) else (imageeditorlaw11_RasterBoxes.j1 kj1 (decide (t498 > (wrap64 (a0_1 - t500)))) a0_0 a0_1 l0_2 t497 t498 t499 t500)))))))) = some r := H
    have A21 := Aside0.mk A210
    clear A210
    have HC22 := Aside0.mk H
    clear H
    obtain ⟨hcz23_0, hcz23_1, hcz23_2, hfz23_0, hfz23_1, hfz23_2⟩ := zq3 BK492
    go_upto_region 4 with (first | (go_at_call 33; (with_reducible refine (raster_Box.calls kj1 a0_0 a0_1 _ _ l0_2 t497 t498 t499 t500 _ ?side1 ?side2 A21.out).mono ?_); (case side1 => repeat (first | exact (Kd.C_below HR0_2.out HB.out) | (with_reducible refine Kd.C_alloc ?_ _) | (with_reducible refine Kd.C_drewN ?_ _) | (with_reducible refine Kd.C_drew ?_))); (case side2 => exact HC0_2.out); rintro e w24 ⟨rfl, hb⟩; replace BK492 := zk BK492 hb; replace HB := zb HB hb; (try clear hb); (try clear hb2); (try clear hk); (try clear hi)) | ((with_reducible refine gate_dst (N := 3) rfl ?_); refine box_event ?hg (N := 3) ?hd (cs := #[.int .i64 0, .int .i64 0, .int .i64 0, .int .i64 0]) (t := 37) ?hr ?_; (case hd => rfl); (case hg => rfl); (case hr => first | (go_simp; done) | (go_simp; rfl)); intro gb501 hg w25 hbox hb; have GW501 := zg HB hg; have GE501 := zg HB hg; have NB492_501 := zn BK492 hg; have NB501_492 := zn' BK492 hg; have n0_ := Aside0.mk (hbox); replace BK492 := zk BK492 hb; replace HB := zb HB hb; have BK501 := n0_; clear n0_; clear hb hbox hg; have hnb26 := NB501_492.out; have hnc26 := NB492_501.out; obtain ⟨hcz27_0, hcz27_1, hcz27_2, hcz27_3, hfz27_0, hfz27_1, hfz27_2, hfz27_3⟩ := zq4 BK501))
    repeat (go_quiet (first | (go_at_call 33; (with_reducible refine (raster_Box.calls kj1 a0_0 a0_1 _ _ l0_2 t497 t498 t499 t500 _ ?side1 ?side2 A21.out).mono ?_); (case side1 => repeat (first | exact (Kd.C_below HR0_2.out HB.out) | (with_reducible refine Kd.C_alloc ?_ _) | (with_reducible refine Kd.C_drewN ?_ _) | (with_reducible refine Kd.C_drew ?_))); (case side2 => exact HC0_2.out); rintro e w24 ⟨rfl, hb⟩; replace BK492 := zk BK492 hb; replace HB := zb HB hb; (try clear hb); (try clear hb2); (try clear hk); (try clear hi)) | ((with_reducible refine gate_dst (N := 3) rfl ?_); refine box_event ?hg (N := 3) ?hd (cs := #[.int .i64 0, .int .i64 0, .int .i64 0, .int .i64 0]) (t := 37) ?hr ?_; (case hd => rfl); (case hg => rfl); (case hr => first | (go_simp; done) | (go_simp; rfl)); intro gb501 hg w25 hbox hb; have GW501 := zg HB hg; have GE501 := zg HB hg; have NB492_501 := zn BK492 hg; have NB501_492 := zn' BK492 hg; have n0_ := Aside0.mk (hbox); replace BK492 := zk BK492 hb; replace HB := zb HB hb; have BK501 := n0_; clear n0_; clear hb hbox hg; have hnb26 := NB501_492.out; have hnc26 := NB492_501.out; obtain ⟨hcz27_0, hcz27_1, hcz27_2, hcz27_3, hfz27_0, hfz27_1, hfz27_2, hfz27_3⟩ := zq4 BK501)); go_upto_region 4 with (first | (go_at_call 33; (with_reducible refine (raster_Box.calls kj1 a0_0 a0_1 _ _ l0_2 t497 t498 t499 t500 _ ?side1 ?side2 A21.out).mono ?_); (case side1 => repeat (first | exact (Kd.C_below HR0_2.out HB.out) | (with_reducible refine Kd.C_alloc ?_ _) | (with_reducible refine Kd.C_drewN ?_ _) | (with_reducible refine Kd.C_drew ?_))); (case side2 => exact HC0_2.out); rintro e w24 ⟨rfl, hb⟩; replace BK492 := zk BK492 hb; replace HB := zb HB hb; (try clear hb); (try clear hb2); (try clear hk); (try clear hi)) | ((with_reducible refine gate_dst (N := 3) rfl ?_); refine box_event ?hg (N := 3) ?hd (cs := #[.int .i64 0, .int .i64 0, .int .i64 0, .int .i64 0]) (t := 37) ?hr ?_; (case hd => rfl); (case hg => rfl); (case hr => first | (go_simp; done) | (go_simp; rfl)); intro gb501 hg w25 hbox hb; have GW501 := zg HB hg; have GE501 := zg HB hg; have NB492_501 := zn BK492 hg; have NB501_492 := zn' BK492 hg; have n0_ := Aside0.mk (hbox); replace BK492 := zk BK492 hb; replace HB := zb HB hb; have BK501 := n0_; clear n0_; clear hb hbox hg; have hnb26 := NB501_492.out; have hnc26 := NB492_501.out; obtain ⟨hcz27_0, hcz27_1, hcz27_2, hcz27_3, hfz27_0, hfz27_1, hfz27_2, hfz27_3⟩ := zq4 BK501)))
    (try simp only [Act.put, sA, sB, sC])
    go_cut [78] (fun v78 wc => ∃ (kq : Nat) (x78_21 : Bool), v78 = .bool x78_21 ∧ Aside0 (imageeditorlaw11_RasterBoxes.j1 kq x78_21 a0_0 a0_1 l0_2 t497 t498 t499 t500 = some r) ∧ Aside0 (kq ≤ kj1) ∧ Aside0 (wc.heap[gb492]? = some (.cells #[.int .i64 a0_0, .int .i64 a0_1, (.slice A0_2 l0_2.length c0_2)] 24 (0, 0))) ∧ Aside0 (wc.heap[gb501]? = some (.cells #[.int .i64 t497, .int .i64 t498, .int .i64 t499, .int .i64 t500] 37 (0, 0))) ∧ Aside0 (Below w.heap.size w wc))
    case first =>
     have H := HC22.out
     clear HC22
     by_cases c28 : t497 < 0
     ·rw [if_pos c28] at H
      have c28b0 : decide (t497 < 0) = true := decide_eq_true c28
      clear c28
      (first | rw [c28b0] | (simp only [i64_w, i32_w]; rw [c28b0]) | skip)
      as_aux_lemma =>
       have H' := Aside0.mk H
       clear H
       obtain ⟨hcz29_0, hcz29_1, hcz29_2, hcz29_3, hfz29_0, hfz29_1, hfz29_2, hfz29_3⟩ := zq4 BK501
       go_wp2
       repeat (go_quiet (fail); try go_wp2)
       go_meet
       case rel => exact ⟨_, (true), (by first | rfl | (simp; done) | (simp [*]; done)), H', ⟨by have := HJ1.out; first | omega | exact Nat.le_refl _⟩, ⟨by exact zf BK492 NB492_501⟩, ⟨by exact zp BK501 rfl⟩, ⟨by exact zbo HB GE501⟩⟩
     ·rw [if_neg c28] at H
      have c28b0 : decide (t497 < 0) = false := decide_eq_false c28
      clear c28
      (first | rw [c28b0] | (simp only [i64_w, i32_w]; rw [c28b0]) | skip)
      by_cases c30 : t498 < 0
      ·rw [if_pos c30] at H
       have c30b0 : decide (t498 < 0) = true := decide_eq_true c30
       clear c30
       as_aux_lemma =>
        have H' := Aside0.mk H
        clear H
        obtain ⟨hcz31_0, hcz31_1, hcz31_2, hcz31_3, hfz31_0, hfz31_1, hfz31_2, hfz31_3⟩ := zq4 BK501
        go_wp2
        repeat (go_quiet (fail); try go_wp2)
        go_meet
        case rel => exact ⟨_, (true), (by first | rfl | (simp; done) | (simp [*]; done)), H', ⟨by have := HJ1.out; first | omega | exact Nat.le_refl _⟩, ⟨by exact zf BK492 NB492_501⟩, ⟨by exact zp BK501 rfl⟩, ⟨by exact zbo HB GE501⟩⟩
      ·rw [if_neg c30] at H
       have c30b0 : decide (t498 < 0) = false := decide_eq_false c30
       clear c30
       by_cases c32 : t499 < 0
       ·rw [if_pos c32] at H
        have c32b0 : decide (t499 < 0) = true := decide_eq_true c32
        clear c32
        as_aux_lemma =>
         have H' := Aside0.mk H
         clear H
         obtain ⟨hcz33_0, hcz33_1, hcz33_2, hcz33_3, hfz33_0, hfz33_1, hfz33_2, hfz33_3⟩ := zq4 BK501
         go_wp2
         repeat (go_quiet (fail); try go_wp2)
         go_meet
         case rel => exact ⟨_, (true), (by first | rfl | (simp; done) | (simp [*]; done)), H', ⟨by have := HJ1.out; first | omega | exact Nat.le_refl _⟩, ⟨by exact zf BK492 NB492_501⟩, ⟨by exact zp BK501 rfl⟩, ⟨by exact zbo HB GE501⟩⟩
       ·rw [if_neg c32] at H
        have c32b0 : decide (t499 < 0) = false := decide_eq_false c32
        clear c32
        by_cases c34 : t500 < 0
        ·rw [if_pos c34] at H
         have c34b0 : decide (t500 < 0) = true := decide_eq_true c34
         clear c34
         as_aux_lemma =>
          have H' := Aside0.mk H
          clear H
          obtain ⟨hcz35_0, hcz35_1, hcz35_2, hcz35_3, hfz35_0, hfz35_1, hfz35_2, hfz35_3⟩ := zq4 BK501
          go_wp2
          repeat (go_quiet (fail); try go_wp2)
          go_meet
          case rel => exact ⟨_, (true), (by first | rfl | (simp; done) | (simp [*]; done)), H', ⟨by have := HJ1.out; first | omega | exact Nat.le_refl _⟩, ⟨by exact zf BK492 NB492_501⟩, ⟨by exact zp BK501 rfl⟩, ⟨by exact zbo HB GE501⟩⟩
        ·rw [if_neg c34] at H
         have c34b0 : decide (t500 < 0) = false := decide_eq_false c34
         clear c34
         by_cases c36 : t499 > a0_0
         ·rw [if_pos c36] at H
          have c36b0 : decide (a0_0 < t499) = true := decide_eq_true c36
          clear c36
          as_aux_lemma =>
           have H' := Aside0.mk H
           clear H
           obtain ⟨hcz37_0, hcz37_1, hcz37_2, hcz37_3, hfz37_0, hfz37_1, hfz37_2, hfz37_3⟩ := zq4 BK501
           obtain ⟨hcz38_0, hcz38_1, hcz38_2, hfz38_0, hfz38_1, hfz38_2⟩ := zq3 BK492
           go_wp2
           repeat (go_quiet (fail); try go_wp2)
           go_meet
           case rel => exact ⟨_, (true), (by first | rfl | (simp; done) | (simp [*]; done)), H', ⟨by have := HJ1.out; first | omega | exact Nat.le_refl _⟩, ⟨by exact zf BK492 NB492_501⟩, ⟨by exact zp BK501 rfl⟩, ⟨by exact zbo HB GE501⟩⟩
         ·rw [if_neg c36] at H
          have c36b0 : decide (a0_0 < t499) = false := decide_eq_false c36
          clear c36
          by_cases c39 : t500 > a0_1
          ·rw [if_pos c39] at H
           have c39b0 : decide (a0_1 < t500) = true := decide_eq_true c39
           clear c39
           as_aux_lemma =>
            have H' := Aside0.mk H
            clear H
            obtain ⟨hcz40_0, hcz40_1, hcz40_2, hcz40_3, hfz40_0, hfz40_1, hfz40_2, hfz40_3⟩ := zq4 BK501
            obtain ⟨hcz41_0, hcz41_1, hcz41_2, hfz41_0, hfz41_1, hfz41_2⟩ := zq3 BK492
            go_wp2
            repeat (go_quiet (fail); try go_wp2)
            go_meet
            case rel => exact ⟨_, (true), (by first | rfl | (simp; done) | (simp [*]; done)), H', ⟨by have := HJ1.out; first | omega | exact Nat.le_refl _⟩, ⟨by exact zf BK492 NB492_501⟩, ⟨by exact zp BK501 rfl⟩, ⟨by exact zbo HB GE501⟩⟩
          ·rw [if_neg c39] at H
           have c39b0 : decide (a0_1 < t500) = false := decide_eq_false c39
           clear c39
           by_cases c42 : t497 > (wrap64 (a0_0 - t499))
           ·rw [if_pos c42] at H
            have c42b0 : decide ((wrap64 (a0_0 - t499)) < t497) = true := decide_eq_true c42
            clear c42
            as_aux_lemma =>
             have H' := Aside0.mk H
             clear H
             obtain ⟨hcz43_0, hcz43_1, hcz43_2, hcz43_3, hfz43_0, hfz43_1, hfz43_2, hfz43_3⟩ := zq4 BK501
             obtain ⟨hcz44_0, hcz44_1, hcz44_2, hfz44_0, hfz44_1, hfz44_2⟩ := zq3 BK492
             go_wp2
             repeat (go_quiet (fail); try go_wp2)
             go_meet
             case rel => exact ⟨_, (true), (by first | rfl | (simp; done) | (simp [*]; done)), H', ⟨by have := HJ1.out; first | omega | exact Nat.le_refl _⟩, ⟨by exact zf BK492 NB492_501⟩, ⟨by exact zp BK501 rfl⟩, ⟨by exact zbo HB GE501⟩⟩
           ·rw [if_neg c42] at H
            have c42b0 : decide ((wrap64 (a0_0 - t499)) < t497) = false := decide_eq_false c42
            clear c42
            as_aux_lemma =>
             have H' := Aside0.mk H
             clear H
             obtain ⟨hcz45_0, hcz45_1, hcz45_2, hcz45_3, hfz45_0, hfz45_1, hfz45_2, hfz45_3⟩ := zq4 BK501
             obtain ⟨hcz46_0, hcz46_1, hcz46_2, hfz46_0, hfz46_1, hfz46_2⟩ := zq3 BK492
             go_wp2
             repeat (go_quiet (fail); try go_wp2)
             go_meet
             case rel => exact ⟨_, (decide (t498 > (wrap64 (a0_1 - t500)))), (by first | rfl | (simp; done) | (simp [*]; done)), H', ⟨by have := HJ1.out; first | omega | exact Nat.le_refl _⟩, ⟨by exact zf BK492 NB492_501⟩, ⟨by exact zp BK501 rfl⟩, ⟨by exact zbo HB GE501⟩⟩
    case rest =>
     clear HC22
     try clear c1
     try clear c2
     try clear p2
     try clear c3
     try clear q3
     try clear c4
     try clear q4
     try clear c5
     try clear p6
     try clear c7
     try clear c7b0
     try clear c7b1
     try clear c13
     try clear c18
     try clear c26
     try clear c28
     try clear c28b0
     try clear c30
     try clear c30b0
     try clear c32
     try clear c32b0
     try clear c34
     try clear c34b0
     try clear c36
     try clear c36b0
     try clear c39
     try clear c39b0
     try clear c42
     try clear c42b0
     try clear hcz10_0
     try clear hcz10_1
     try clear hcz10_2
     try clear hcz12_0
     try clear hcz12_1
     try clear hcz12_2
     try clear hcz15_0
     try clear hcz15_1
     try clear hcz15_2
     try clear hcz23_0
     try clear hcz23_1
     try clear hcz23_2
     try clear hcz27_0
     try clear hcz27_1
     try clear hcz27_2
     try clear hcz27_3
     try clear hcz29_0
     try clear hcz29_1
     try clear hcz29_2
     try clear hcz29_3
     try clear hcz31_0
     try clear hcz31_1
     try clear hcz31_2
     try clear hcz31_3
     try clear hcz33_0
     try clear hcz33_1
     try clear hcz33_2
     try clear hcz33_3
     try clear hcz35_0
     try clear hcz35_1
     try clear hcz35_2
     try clear hcz35_3
     try clear hcz37_0
     try clear hcz37_1
     try clear hcz37_2
     try clear hcz37_3
     try clear hcz38_0
     try clear hcz38_1
     try clear hcz38_2
     try clear hcz40_0
     try clear hcz40_1
     try clear hcz40_2
     try clear hcz40_3
     try clear hcz41_0
     try clear hcz41_1
     try clear hcz41_2
     try clear hcz43_0
     try clear hcz43_1
     try clear hcz43_2
     try clear hcz43_3
     try clear hcz44_0
     try clear hcz44_1
     try clear hcz44_2
     try clear hcz45_0
     try clear hcz45_1
     try clear hcz45_2
     try clear hcz45_3
     try clear hcz46_0
     try clear hcz46_1
     try clear hcz46_2
     try clear hfz10_0
     try clear hfz10_1
     try clear hfz10_2
     try clear hfz12_0
     try clear hfz12_1
     try clear hfz12_2
     try clear hfz15_0
     try clear hfz15_1
     try clear hfz15_2
     try clear hfz23_0
     try clear hfz23_1
     try clear hfz23_2
     try clear hfz27_0
     try clear hfz27_1
     try clear hfz27_2
     try clear hfz27_3
     try clear hfz29_0
     try clear hfz29_1
     try clear hfz29_2
     try clear hfz29_3
     try clear hfz31_0
     try clear hfz31_1
     try clear hfz31_2
     try clear hfz31_3
     try clear hfz33_0
     try clear hfz33_1
     try clear hfz33_2
     try clear hfz33_3
     try clear hfz35_0
     try clear hfz35_1
     try clear hfz35_2
     try clear hfz35_3
     try clear hfz37_0
     try clear hfz37_1
     try clear hfz37_2
     try clear hfz37_3
     try clear hfz38_0
     try clear hfz38_1
     try clear hfz38_2
     try clear hfz40_0
     try clear hfz40_1
     try clear hfz40_2
     try clear hfz40_3
     try clear hfz41_0
     try clear hfz41_1
     try clear hfz41_2
     try clear hfz43_0
     try clear hfz43_1
     try clear hfz43_2
     try clear hfz43_3
     try clear hfz44_0
     try clear hfz44_1
     try clear hfz44_2
     try clear hfz45_0
     try clear hfz45_1
     try clear hfz45_2
     try clear hfz45_3
     try clear hfz46_0
     try clear hfz46_1
     try clear hfz46_2
     try clear p2
     try clear q3
     obtain ⟨kq, x78_21, rfl, HA, HJ21, BK492, BK501, HB⟩ := hcut
     cases kq with
     | zero => exact absurd HA.out (by simp [imageeditorlaw11_RasterBoxes.j1])
     | succ kj21 =>
      have H := HA.out
      clear HA
      simp only [imageeditorlaw11_RasterBoxes.j1] at H
      by_cases c47 : x78_21 = true
      ·subst c47
       have H1 : (some false) = some r := by rw [if_pos rfl] at H; exact H
       clear H
       have H := H1
       clear H1
       as_aux_lemma =>
        exact absurd HT.out (by rw [← Option.some.inj H]; decide)
      ·replace c47 := Bool.eq_false_iff.mpr c47
       subst c47
       have H1 : (imageeditorlaw11_RasterBoxes.l0 kj21 false false false false l0_2 (l0_2.length : Int) 0 a0_0 a0_1 l0_2 t497 t498 t499 t500) = some r := by rw [if_neg (show ¬ (false = true) by decide)] at H; exact H
       clear H
       have H := H1
       clear H1
       have H' := Aside0.mk H
       clear H
       obtain ⟨hcz48_0, hcz48_1, hcz48_2, hfz48_0, hfz48_1, hfz48_2⟩ := zq3 BK492
       go_wp2
       repeat (go_quiet (fail); try go_wp2)
       go_loopg [4, 5, 6, 7, 82] kj21 (fun kq v4 v5 v6 v7 v82 w' => ∃ (x4_3 : Bool) (x5_3 : Bool) (x6_3 : Bool) (x7_3 : Bool) (x82_3 : Int), v4 = .bool x4_3 ∧ v5 = .bool x5_3 ∧ v6 = .bool x6_3 ∧ v7 = .bool x7_3 ∧ v82 = .int .i64 x82_3 ∧ Aside0 (imageeditorlaw11_RasterBoxes.l0 kq x4_3 x5_3 x6_3 x7_3 l0_2 (l0_2.length : Int) x82_3 a0_0 a0_1 l0_2 t497 t498 t499 t500 = some r) ∧ Aside0 (kq ≤ kj21) ∧ Aside0 (w'.heap[gb492]? = some (.cells #[.int .i64 a0_0, .int .i64 a0_1, (.slice A0_2 l0_2.length c0_2)] 24 (0, 0))) ∧ Aside0 (w'.heap[gb501]? = some (.cells #[.int .i64 t497, .int .i64 t498, .int .i64 t499, .int .i64 t500] 37 (0, 0))) ∧ Aside0 (Below w.heap.size w w'))
       case atStart => exact ⟨(false), (false), (false), (false), (0), (by first | rfl | (simp; done) | (simp [*]; done)), (by first | rfl | (simp; done) | (simp [*]; done)), (by first | rfl | (simp; done) | (simp [*]; done)), (by first | rfl | (simp; done) | (simp [*]; done)), (by first | rfl | (simp; done) | (simp [*]; done)), H', ⟨Nat.le_refl _⟩, ⟨by exact zk0 BK492⟩, ⟨by exact zk0 BK501⟩, ⟨by exact zb0 HB⟩⟩
       case round =>
        clear H'
        try clear c1
        try clear c2
        try clear p2
        try clear c3
        try clear q3
        try clear c4
        try clear q4
        try clear c5
        try clear p6
        try clear c7
        try clear c7b0
        try clear c7b1
        try clear c13
        try clear c18
        try clear c26
        try clear c28
        try clear c28b0
        try clear c30
        try clear c30b0
        try clear c32
        try clear c32b0
        try clear c34
        try clear c34b0
        try clear c36
        try clear c36b0
        try clear c39
        try clear c39b0
        try clear c42
        try clear c42b0
        try clear c47
        try clear hcz10_0
        try clear hcz10_1
        try clear hcz10_2
        try clear hcz12_0
        try clear hcz12_1
        try clear hcz12_2
        try clear hcz15_0
        try clear hcz15_1
        try clear hcz15_2
        try clear hcz23_0
        try clear hcz23_1
        try clear hcz23_2
        try clear hcz27_0
        try clear hcz27_1
        try clear hcz27_2
        try clear hcz27_3
        try clear hcz29_0
        try clear hcz29_1
        try clear hcz29_2
        try clear hcz29_3
        try clear hcz31_0
        try clear hcz31_1
        try clear hcz31_2
        try clear hcz31_3
        try clear hcz33_0
        try clear hcz33_1
        try clear hcz33_2
        try clear hcz33_3
        try clear hcz35_0
        try clear hcz35_1
        try clear hcz35_2
        try clear hcz35_3
        try clear hcz37_0
        try clear hcz37_1
        try clear hcz37_2
        try clear hcz37_3
        try clear hcz38_0
        try clear hcz38_1
        try clear hcz38_2
        try clear hcz40_0
        try clear hcz40_1
        try clear hcz40_2
        try clear hcz40_3
        try clear hcz41_0
        try clear hcz41_1
        try clear hcz41_2
        try clear hcz43_0
        try clear hcz43_1
        try clear hcz43_2
        try clear hcz43_3
        try clear hcz44_0
        try clear hcz44_1
        try clear hcz44_2
        try clear hcz45_0
        try clear hcz45_1
        try clear hcz45_2
        try clear hcz45_3
        try clear hcz46_0
        try clear hcz46_1
        try clear hcz46_2
        try clear hcz48_0
        try clear hcz48_1
        try clear hcz48_2
        try clear hfz10_0
        try clear hfz10_1
        try clear hfz10_2
        try clear hfz12_0
        try clear hfz12_1
        try clear hfz12_2
        try clear hfz15_0
        try clear hfz15_1
        try clear hfz15_2
        try clear hfz23_0
        try clear hfz23_1
        try clear hfz23_2
        try clear hfz27_0
        try clear hfz27_1
        try clear hfz27_2
        try clear hfz27_3
        try clear hfz29_0
        try clear hfz29_1
        try clear hfz29_2
        try clear hfz29_3
        try clear hfz31_0
        try clear hfz31_1
        try clear hfz31_2
        try clear hfz31_3
        try clear hfz33_0
        try clear hfz33_1
        try clear hfz33_2
        try clear hfz33_3
        try clear hfz35_0
        try clear hfz35_1
        try clear hfz35_2
        try clear hfz35_3
        try clear hfz37_0
        try clear hfz37_1
        try clear hfz37_2
        try clear hfz37_3
        try clear hfz38_0
        try clear hfz38_1
        try clear hfz38_2
        try clear hfz40_0
        try clear hfz40_1
        try clear hfz40_2
        try clear hfz40_3
        try clear hfz41_0
        try clear hfz41_1
        try clear hfz41_2
        try clear hfz43_0
        try clear hfz43_1
        try clear hfz43_2
        try clear hfz43_3
        try clear hfz44_0
        try clear hfz44_1
        try clear hfz44_2
        try clear hfz45_0
        try clear hfz45_1
        try clear hfz45_2
        try clear hfz45_3
        try clear hfz46_0
        try clear hfz46_1
        try clear hfz46_2
        try clear hfz48_0
        try clear hfz48_1
        try clear hfz48_2
        try clear p2
        try clear p6
        try clear q3
        try clear q4
        obtain ⟨x4_3, x5_3, x6_3, x7_3, x82_3, rfl, rfl, rfl, rfl, rfl, HA, HK3, BK492, BK501, HB⟩ := hrel
        cases gk with
        | zero => exact absurd HA.out (by simp [imageeditorlaw11_RasterBoxes.l0])
        | succ k3 =>
         have H := HA.out
         clear HA
         simp only [imageeditorlaw11_RasterBoxes.l0] at H
         by_cases c49 : x82_3 < (l0_2.length : Int)
         ·rw [if_pos c49] at H
          have c49b0 : decide (x82_3 < (l0_2.length : Int)) = true := decide_eq_true c49
          clear c49
          by_cases c50 : 0 ≤ x82_3
          ·rw [if_pos c50] at H
           have c50b0 : decide (0 ≤ x82_3) = true := decide_eq_true c50
           clear c50
           by_cases c51 : x82_3 < (l0_2.length : Int)
           ·rw [if_pos c51] at H
            have c51b0 : decide (x82_3 < (l0_2.length : Int)) = true := decide_eq_true c51
            clear c51
            by_cases c52 : a0_0 = 0
            ·rw [if_pos c52] at H
             exact absurd H (by simp)
            ·rw [if_neg c52] at H
             have c52b0 : (a0_0 == 0) = false := beq_eq_false_iff_ne.mpr c52
             have c52b1 : (a0_0 != 0) = true := bne_iff_ne.mpr c52
             by_cases c53 : ((rd_T26 l0_2 x82_3).f3) = 0
             ·rw [if_pos c53] at H
              have c53b0 : (((rd_T26 l0_2 x82_3).f3) == 0) = true := beq_iff_eq.mpr c53
              have c53b1 : (((rd_T26 l0_2 x82_3).f3) != 0) = false := bne_eq_false_iff_eq.mpr c53
              clear c53
              as_aux_lemma =>
               have H' := Aside0.mk H
               clear H
               have p502 : 0 ≤ (x82_3 : Int) := of_decide_eq_true (by first | (with_reducible assumption) | assumption)
               have q502 : x82_3 < (l0_2.length : Int) := of_decide_eq_true (by first | (with_reducible assumption) | assumption)
               obtain ⟨ad502, e502, hx502_0, hx502_1, hx502_2, hx502_3⟩ := at_T26 HR0_2.out x82_3 p502 q502
               cases e502
               replace hx502_0 := (HB.out.cell (World.block_lt_of_cell? w _ hx502_0)).trans hx502_0
               replace hx502_1 := (HB.out.cell (World.block_lt_of_cell? w _ hx502_1)).trans hx502_1
               replace hx502_2 := (HB.out.cell (World.block_lt_of_cell? w _ hx502_2)).trans hx502_2
               replace hx502_3 := (HB.out.cell (World.block_lt_of_cell? w _ hx502_3)).trans hx502_3
               replace p502 := eq_true p502
               replace q502 := eq_true q502
               go_wp2_with (first | ((with_reducible refine gate_dst (N := 9) rfl ?_); refine box_event ?hg (N := 9) ?hd (cs := #[.int .i64 0, .int .i64 0, .int .i64 0, .int .i64 0]) (t := 26) ?hr ?_; (case hd => rfl); (case hg => rfl); (case hr => first | (go_simp; done) | (go_simp; rfl)); intro gb503 hg w54 hbox hb; have GW503 := zg HB hg; have GE503 := zg HB hg; have NB492_503 := zn BK492 hg; have NB503_492 := zn' BK492 hg; have NB501_503 := zn BK501 hg; have NB503_501 := zn' BK501 hg; have n0_ := Aside0.mk (hbox); replace BK492 := zk BK492 hb; replace BK501 := zk BK501 hb; replace HB := zb HB hb; have BK503 := n0_; clear n0_; clear hb hbox hg; have hnb55 := NB503_492.out; have hnc55 := NB492_503.out; have hnb56 := NB503_501.out; have hnc56 := NB501_503.out; obtain ⟨hcz57_0, hcz57_1, hcz57_2, hcz57_3, hfz57_0, hfz57_1, hfz57_2, hfz57_3⟩ := zq4 BK503; have hnb58 := NB492_501.out; have hnc58 := NB501_492.out; obtain ⟨hcz59_0, hcz59_1, hcz59_2, hfz59_0, hfz59_1, hfz59_2⟩ := zq3 BK492))
               repeat (go_quiet (first | ((with_reducible refine gate_dst (N := 9) rfl ?_); refine box_event ?hg (N := 9) ?hd (cs := #[.int .i64 0, .int .i64 0, .int .i64 0, .int .i64 0]) (t := 26) ?hr ?_; (case hd => rfl); (case hg => rfl); (case hr => first | (go_simp; done) | (go_simp; rfl)); intro gb503 hg w54 hbox hb; have GW503 := zg HB hg; have GE503 := zg HB hg; have NB492_503 := zn BK492 hg; have NB503_492 := zn' BK492 hg; have NB501_503 := zn BK501 hg; have NB503_501 := zn' BK501 hg; have n0_ := Aside0.mk (hbox); replace BK492 := zk BK492 hb; replace BK501 := zk BK501 hb; replace HB := zb HB hb; have BK503 := n0_; clear n0_; clear hb hbox hg; have hnb55 := NB503_492.out; have hnc55 := NB492_503.out; have hnb56 := NB503_501.out; have hnc56 := NB501_503.out; obtain ⟨hcz57_0, hcz57_1, hcz57_2, hcz57_3, hfz57_0, hfz57_1, hfz57_2, hfz57_3⟩ := zq4 BK503; have hnb58 := NB492_501.out; have hnc58 := NB501_492.out; obtain ⟨hcz59_0, hcz59_1, hcz59_2, hfz59_0, hfz59_1, hfz59_2⟩ := zq3 BK492)); try go_wp2_with (first | ((with_reducible refine gate_dst (N := 9) rfl ?_); refine box_event ?hg (N := 9) ?hd (cs := #[.int .i64 0, .int .i64 0, .int .i64 0, .int .i64 0]) (t := 26) ?hr ?_; (case hd => rfl); (case hg => rfl); (case hr => first | (go_simp; done) | (go_simp; rfl)); intro gb503 hg w54 hbox hb; have GW503 := zg HB hg; have GE503 := zg HB hg; have NB492_503 := zn BK492 hg; have NB503_492 := zn' BK492 hg; have NB501_503 := zn BK501 hg; have NB503_501 := zn' BK501 hg; have n0_ := Aside0.mk (hbox); replace BK492 := zk BK492 hb; replace BK501 := zk BK501 hb; replace HB := zb HB hb; have BK503 := n0_; clear n0_; clear hb hbox hg; have hnb55 := NB503_492.out; have hnc55 := NB492_503.out; have hnb56 := NB503_501.out; have hnc56 := NB501_503.out; obtain ⟨hcz57_0, hcz57_1, hcz57_2, hcz57_3, hfz57_0, hfz57_1, hfz57_2, hfz57_3⟩ := zq4 BK503; have hnb58 := NB492_501.out; have hnc58 := NB501_492.out; obtain ⟨hcz59_0, hcz59_1, hcz59_2, hfz59_0, hfz59_1, hfz59_2⟩ := zq3 BK492)))
               go_roundg k3
               case measure => have := HJ1.out; have := HJ21.out; have := HK3.out; omega
               case rel => exact ⟨(x4_3), (x5_3), (x6_3), (x7_3), (wrap64 (x82_3 + 1)), (by first | rfl | (simp; done) | (simp [*]; done)), (by first | rfl | (simp; done) | (simp [*]; done)), (by first | rfl | (simp; done) | (simp [*]; done)), (by first | rfl | (simp; done) | (simp [*]; done)), (by first | rfl | (simp; done) | (simp [*]; done)), H', ⟨by have := HJ1.out; have := HJ21.out; have := HK3.out; omega⟩, ⟨by exact zf BK492 NB492_503⟩, ⟨by exact zf BK501 NB501_503⟩, ⟨by exact zbo HB GE503⟩⟩
             ·rw [if_neg c53] at H
              have c53b0 : (((rd_T26 l0_2 x82_3).f3) == 0) = false := beq_eq_false_iff_ne.mpr c53
              have c53b1 : (((rd_T26 l0_2 x82_3).f3) != 0) = true := bne_iff_ne.mpr c53
              have HC60 := Aside0.mk H
              clear H
              have p502 : 0 ≤ (x82_3 : Int) := of_decide_eq_true (by first | (with_reducible assumption) | assumption)
              have q502 : x82_3 < (l0_2.length : Int) := of_decide_eq_true (by first | (with_reducible assumption) | assumption)
              obtain ⟨ad502, e502, hx502_0, hx502_1, hx502_2, hx502_3⟩ := at_T26 HR0_2.out x82_3 p502 q502
              cases e502
              replace hx502_0 := (HB.out.cell (World.block_lt_of_cell? w _ hx502_0)).trans hx502_0
              replace hx502_1 := (HB.out.cell (World.block_lt_of_cell? w _ hx502_1)).trans hx502_1
              replace hx502_2 := (HB.out.cell (World.block_lt_of_cell? w _ hx502_2)).trans hx502_2
              replace hx502_3 := (HB.out.cell (World.block_lt_of_cell? w _ hx502_3)).trans hx502_3
              replace p502 := eq_true p502
              replace q502 := eq_true q502
              go_upto_region 12 with (first | ((with_reducible refine gate_dst (N := 9) rfl ?_); refine box_event ?hg (N := 9) ?hd (cs := #[.int .i64 0, .int .i64 0, .int .i64 0, .int .i64 0]) (t := 26) ?hr ?_; (case hd => rfl); (case hg => rfl); (case hr => first | (go_simp; done) | (go_simp; rfl)); intro gb503 hg w61 hbox hb; have GW503 := zg HB hg; have GE503 := zg HB hg; have NB492_503 := zn BK492 hg; have NB503_492 := zn' BK492 hg; have NB501_503 := zn BK501 hg; have NB503_501 := zn' BK501 hg; have n0_ := Aside0.mk (hbox); replace BK492 := zk BK492 hb; replace BK501 := zk BK501 hb; replace HB := zb HB hb; have BK503 := n0_; clear n0_; clear hb hbox hg; have hnb62 := NB503_492.out; have hnc62 := NB492_503.out; have hnb63 := NB503_501.out; have hnc63 := NB501_503.out; obtain ⟨hcz64_0, hcz64_1, hcz64_2, hcz64_3, hfz64_0, hfz64_1, hfz64_2, hfz64_3⟩ := zq4 BK503; have hnb65 := NB492_501.out; have hnc65 := NB501_492.out; obtain ⟨hcz66_0, hcz66_1, hcz66_2, hfz66_0, hfz66_1, hfz66_2⟩ := zq3 BK492))
              repeat (go_quiet (first | ((with_reducible refine gate_dst (N := 9) rfl ?_); refine box_event ?hg (N := 9) ?hd (cs := #[.int .i64 0, .int .i64 0, .int .i64 0, .int .i64 0]) (t := 26) ?hr ?_; (case hd => rfl); (case hg => rfl); (case hr => first | (go_simp; done) | (go_simp; rfl)); intro gb503 hg w61 hbox hb; have GW503 := zg HB hg; have GE503 := zg HB hg; have NB492_503 := zn BK492 hg; have NB503_492 := zn' BK492 hg; have NB501_503 := zn BK501 hg; have NB503_501 := zn' BK501 hg; have n0_ := Aside0.mk (hbox); replace BK492 := zk BK492 hb; replace BK501 := zk BK501 hb; replace HB := zb HB hb; have BK503 := n0_; clear n0_; clear hb hbox hg; have hnb62 := NB503_492.out; have hnc62 := NB492_503.out; have hnb63 := NB503_501.out; have hnc63 := NB501_503.out; obtain ⟨hcz64_0, hcz64_1, hcz64_2, hcz64_3, hfz64_0, hfz64_1, hfz64_2, hfz64_3⟩ := zq4 BK503; have hnb65 := NB492_501.out; have hnc65 := NB501_492.out; obtain ⟨hcz66_0, hcz66_1, hcz66_2, hfz66_0, hfz66_1, hfz66_2⟩ := zq3 BK492)); go_upto_region 12 with (first | ((with_reducible refine gate_dst (N := 9) rfl ?_); refine box_event ?hg (N := 9) ?hd (cs := #[.int .i64 0, .int .i64 0, .int .i64 0, .int .i64 0]) (t := 26) ?hr ?_; (case hd => rfl); (case hg => rfl); (case hr => first | (go_simp; done) | (go_simp; rfl)); intro gb503 hg w61 hbox hb; have GW503 := zg HB hg; have GE503 := zg HB hg; have NB492_503 := zn BK492 hg; have NB503_492 := zn' BK492 hg; have NB501_503 := zn BK501 hg; have NB503_501 := zn' BK501 hg; have n0_ := Aside0.mk (hbox); replace BK492 := zk BK492 hb; replace BK501 := zk BK501 hb; replace HB := zb HB hb; have BK503 := n0_; clear n0_; clear hb hbox hg; have hnb62 := NB503_492.out; have hnc62 := NB492_503.out; have hnb63 := NB503_501.out; have hnc63 := NB501_503.out; obtain ⟨hcz64_0, hcz64_1, hcz64_2, hcz64_3, hfz64_0, hfz64_1, hfz64_2, hfz64_3⟩ := zq4 BK503; have hnb65 := NB492_501.out; have hnc65 := NB501_492.out; obtain ⟨hcz66_0, hcz66_1, hcz66_2, hfz66_0, hfz66_1, hfz66_2⟩ := zq3 BK492)))
              (try simp only [Act.put, sA, sB, sC])
              go_cut [125] (fun v125 wc => ∃ (kq : Nat) (x125_59 : Bool), v125 = .bool x125_59 ∧ Aside0 (imageeditorlaw11_RasterBoxes.j3 kq x4_3 x5_3 x6_3 x7_3 (Int.tmod x82_3 a0_0) (wrap64 (Int.tdiv x82_3 a0_0)) l0_2 (l0_2.length : Int) x82_3 x125_59 a0_0 a0_1 l0_2 t497 t498 t499 t500 = some r) ∧ Aside0 (kq ≤ k3) ∧ Aside0 (wc.heap[gb492]? = some (.cells #[.int .i64 a0_0, .int .i64 a0_1, (.slice (some ad502) l0_2.length c0_2)] 24 (0, 0))) ∧ Aside0 (wc.heap[gb501]? = some (.cells #[.int .i64 t497, .int .i64 t498, .int .i64 t499, .int .i64 t500] 37 (0, 0))) ∧ Aside0 (wc.heap[gb503]? = some (.cells #[.int .i64 ((rd_T26 l0_2 x82_3).f0), .int .i64 ((rd_T26 l0_2 x82_3).f1), .int .i64 ((rd_T26 l0_2 x82_3).f2), .int .i64 ((rd_T26 l0_2 x82_3).f3)] 26 (0, 0))) ∧ Aside0 (Below w.heap.size w wc))
              case first =>
               have H := HC60.out
               clear HC60
               by_cases c67 : (Int.tmod x82_3 a0_0) < t497
               ·rw [if_pos c67] at H
                have c67b0 : decide ((Int.tmod x82_3 a0_0) < t497) = true := decide_eq_true c67
                clear c67
                (first | rw [c67b0] | (simp only [i64_w, i32_w]; rw [c67b0]) | skip)
                as_aux_lemma =>
                 have H' := Aside0.mk H
                 clear H
                 obtain ⟨hcz68_0, hcz68_1, hcz68_2, hcz68_3, hfz68_0, hfz68_1, hfz68_2, hfz68_3⟩ := zq4 BK501
                 go_wp2
                 repeat (go_quiet (fail); try go_wp2)
                 go_meet
                 case rel => exact ⟨_, (true), (by first | rfl | (simp; done) | (simp [*]; done)), H', ⟨by have := HJ1.out; have := HJ21.out; have := HK3.out; first | omega | exact Nat.le_refl _⟩, ⟨by exact zf BK492 NB492_503⟩, ⟨by exact zf BK501 NB501_503⟩, ⟨by exact zp BK503 rfl⟩, ⟨by exact zbo HB GE503⟩⟩
               ·rw [if_neg c67] at H
                have c67b0 : decide ((Int.tmod x82_3 a0_0) < t497) = false := decide_eq_false c67
                clear c67
                (first | rw [c67b0] | (simp only [i64_w, i32_w]; rw [c67b0]) | skip)
                by_cases c69 : (Int.tmod x82_3 a0_0) ≥ (wrap64 (t497 + t499))
                ·rw [if_pos c69] at H
                 have c69b0 : decide ((wrap64 (t497 + t499)) ≤ (Int.tmod x82_3 a0_0)) = true := decide_eq_true c69
                 clear c69
                 as_aux_lemma =>
                  have H' := Aside0.mk H
                  clear H
                  obtain ⟨hcz70_0, hcz70_1, hcz70_2, hcz70_3, hfz70_0, hfz70_1, hfz70_2, hfz70_3⟩ := zq4 BK501
                  go_wp2
                  repeat (go_quiet (fail); try go_wp2)
                  go_meet
                  case rel => exact ⟨_, (true), (by first | rfl | (simp; done) | (simp [*]; done)), H', ⟨by have := HJ1.out; have := HJ21.out; have := HK3.out; first | omega | exact Nat.le_refl _⟩, ⟨by exact zf BK492 NB492_503⟩, ⟨by exact zf BK501 NB501_503⟩, ⟨by exact zp BK503 rfl⟩, ⟨by exact zbo HB GE503⟩⟩
                ·rw [if_neg c69] at H
                 have c69b0 : decide ((wrap64 (t497 + t499)) ≤ (Int.tmod x82_3 a0_0)) = false := decide_eq_false c69
                 clear c69
                 by_cases c71 : (wrap64 (Int.tdiv x82_3 a0_0)) < t498
                 ·rw [if_pos c71] at H
                  have c71b0 : decide ((wrap64 (Int.tdiv x82_3 a0_0)) < t498) = true := decide_eq_true c71
                  clear c71
                  as_aux_lemma =>
                   have H' := Aside0.mk H
                   clear H
                   obtain ⟨hcz72_0, hcz72_1, hcz72_2, hcz72_3, hfz72_0, hfz72_1, hfz72_2, hfz72_3⟩ := zq4 BK501
                   go_wp2
                   repeat (go_quiet (fail); try go_wp2)
                   go_meet
                   case rel => exact ⟨_, (true), (by first | rfl | (simp; done) | (simp [*]; done)), H', ⟨by have := HJ1.out; have := HJ21.out; have := HK3.out; first | omega | exact Nat.le_refl _⟩, ⟨by exact zf BK492 NB492_503⟩, ⟨by exact zf BK501 NB501_503⟩, ⟨by exact zp BK503 rfl⟩, ⟨by exact zbo HB GE503⟩⟩
                 ·rw [if_neg c71] at H
                  have c71b0 : decide ((wrap64 (Int.tdiv x82_3 a0_0)) < t498) = false := decide_eq_false c71
                  clear c71
                  as_aux_lemma =>
                   have H' := Aside0.mk H
                   clear H
                   obtain ⟨hcz73_0, hcz73_1, hcz73_2, hcz73_3, hfz73_0, hfz73_1, hfz73_2, hfz73_3⟩ := zq4 BK501
                   go_wp2
                   repeat (go_quiet (fail); try go_wp2)
                   go_meet
                   case rel => exact ⟨_, (decide ((wrap64 (Int.tdiv x82_3 a0_0)) ≥ (wrap64 (t498 + t500)))), (by first | rfl | (simp; done) | (simp [*]; done)), H', ⟨by have := HJ1.out; have := HJ21.out; have := HK3.out; first | omega | exact Nat.le_refl _⟩, ⟨by exact zf BK492 NB492_503⟩, ⟨by exact zf BK501 NB501_503⟩, ⟨by exact zp BK503 rfl⟩, ⟨by exact zbo HB GE503⟩⟩
              case rest =>
               clear HC60
               try clear c1
               try clear c2
               try clear p2
               try clear c3
               try clear q3
               try clear c4
               try clear q4
               try clear c5
               try clear p5
               try clear q5
               try clear hx5
               try clear c6
               try clear p6
               try clear c7
               try clear c7b0
               try clear c7b1
               try clear c13
               try clear c18
               try clear c26
               try clear c28
               try clear c28b0
               try clear c30
               try clear c30b0
               try clear c32
               try clear c32b0
               try clear c34
               try clear c34b0
               try clear c36
               try clear c36b0
               try clear c39
               try clear c39b0
               try clear c42
               try clear c42b0
               try clear c47
               try clear c49
               try clear c49b0
               try clear c50
               try clear c50b0
               try clear p50
               try clear q50
               try clear hx50
               try clear c51
               try clear c51b0
               try clear c52
               try clear c52b0
               try clear c52b1
               try clear c53
               try clear c53b0
               try clear c53b1
               try clear c55
               try clear c56
               try clear c58
               try clear c62
               try clear c63
               try clear p64
               try clear c65
               try clear c67
               try clear c67b0
               try clear c69
               try clear c69b0
               try clear c71
               try clear c71b0
               try clear hcz10_0
               try clear hcz10_1
               try clear hcz10_2
               try clear hcz12_0
               try clear hcz12_1
               try clear hcz12_2
               try clear hcz15_0
               try clear hcz15_1
               try clear hcz15_2
               try clear hcz23_0
               try clear hcz23_1
               try clear hcz23_2
               try clear hcz27_0
               try clear hcz27_1
               try clear hcz27_2
               try clear hcz27_3
               try clear hcz29_0
               try clear hcz29_1
               try clear hcz29_2
               try clear hcz29_3
               try clear hcz31_0
               try clear hcz31_1
               try clear hcz31_2
               try clear hcz31_3
               try clear hcz33_0
               try clear hcz33_1
               try clear hcz33_2
               try clear hcz33_3
               try clear hcz35_0
               try clear hcz35_1
               try clear hcz35_2
               try clear hcz35_3
               try clear hcz37_0
               try clear hcz37_1
               try clear hcz37_2
               try clear hcz37_3
               try clear hcz38_0
               try clear hcz38_1
               try clear hcz38_2
               try clear hcz40_0
               try clear hcz40_1
               try clear hcz40_2
               try clear hcz40_3
               try clear hcz41_0
               try clear hcz41_1
               try clear hcz41_2
               try clear hcz43_0
               try clear hcz43_1
               try clear hcz43_2
               try clear hcz43_3
               try clear hcz44_0
               try clear hcz44_1
               try clear hcz44_2
               try clear hcz45_0
               try clear hcz45_1
               try clear hcz45_2
               try clear hcz45_3
               try clear hcz46_0
               try clear hcz46_1
               try clear hcz46_2
               try clear hcz48_0
               try clear hcz48_1
               try clear hcz48_2
               try clear hcz57_0
               try clear hcz57_1
               try clear hcz57_2
               try clear hcz57_3
               try clear hcz59_0
               try clear hcz59_1
               try clear hcz59_2
               try clear hcz64_0
               try clear hcz64_1
               try clear hcz64_2
               try clear hcz64_3
               try clear hcz66_0
               try clear hcz66_1
               try clear hcz66_2
               try clear hcz68_0
               try clear hcz68_1
               try clear hcz68_2
               try clear hcz68_3
               try clear hcz70_0
               try clear hcz70_1
               try clear hcz70_2
               try clear hcz70_3
               try clear hcz72_0
               try clear hcz72_1
               try clear hcz72_2
               try clear hcz72_3
               try clear hcz73_0
               try clear hcz73_1
               try clear hcz73_2
               try clear hcz73_3
               try clear hfz10_0
               try clear hfz10_1
               try clear hfz10_2
               try clear hfz12_0
               try clear hfz12_1
               try clear hfz12_2
               try clear hfz15_0
               try clear hfz15_1
               try clear hfz15_2
               try clear hfz23_0
               try clear hfz23_1
               try clear hfz23_2
               try clear hfz27_0
               try clear hfz27_1
               try clear hfz27_2
               try clear hfz27_3
               try clear hfz29_0
               try clear hfz29_1
               try clear hfz29_2
               try clear hfz29_3
               try clear hfz31_0
               try clear hfz31_1
               try clear hfz31_2
               try clear hfz31_3
               try clear hfz33_0
               try clear hfz33_1
               try clear hfz33_2
               try clear hfz33_3
               try clear hfz35_0
               try clear hfz35_1
               try clear hfz35_2
               try clear hfz35_3
               try clear hfz37_0
               try clear hfz37_1
               try clear hfz37_2
               try clear hfz37_3
               try clear hfz38_0
               try clear hfz38_1
               try clear hfz38_2
               try clear hfz40_0
               try clear hfz40_1
               try clear hfz40_2
               try clear hfz40_3
               try clear hfz41_0
               try clear hfz41_1
               try clear hfz41_2
               try clear hfz43_0
               try clear hfz43_1
               try clear hfz43_2
               try clear hfz43_3
               try clear hfz44_0
               try clear hfz44_1
               try clear hfz44_2
               try clear hfz45_0
               try clear hfz45_1
               try clear hfz45_2
               try clear hfz45_3
               try clear hfz46_0
               try clear hfz46_1
               try clear hfz46_2
               try clear hfz48_0
               try clear hfz48_1
               try clear hfz48_2
               try clear hfz57_0
               try clear hfz57_1
               try clear hfz57_2
               try clear hfz57_3
               try clear hfz59_0
               try clear hfz59_1
               try clear hfz59_2
               try clear hfz64_0
               try clear hfz64_1
               try clear hfz64_2
               try clear hfz64_3
               try clear hfz66_0
               try clear hfz66_1
               try clear hfz66_2
               try clear hfz68_0
               try clear hfz68_1
               try clear hfz68_2
               try clear hfz68_3
               try clear hfz70_0
               try clear hfz70_1
               try clear hfz70_2
               try clear hfz70_3
               try clear hfz72_0
               try clear hfz72_1
               try clear hfz72_2
               try clear hfz72_3
               try clear hfz73_0
               try clear hfz73_1
               try clear hfz73_2
               try clear hfz73_3
               try clear hx502_0
               try clear hx502_1
               try clear hx502_2
               try clear hx502_3
               try clear p2
               try clear p502
               try clear p6
               try clear q3
               try clear q4
               try clear q502
               obtain ⟨kq, x125_59, rfl, HA, HJ59, BK492, BK501, BK503, HB⟩ := hcut
               cases kq with
               | zero => exact absurd HA.out (by simp [imageeditorlaw11_RasterBoxes.j3])
               | succ kj59 =>
                have H := HA.out
                clear HA
                simp only [imageeditorlaw11_RasterBoxes.j3] at H
                by_cases c74 : x125_59 = true
                ·subst c74
                 have H1 : (some false) = some r := by rw [if_pos rfl] at H; exact H
                 clear H
                 have H := H1
                 clear H1
                 as_aux_lemma =>
                  exact absurd HT.out (by rw [← Option.some.inj H]; decide)
                ·replace c74 := Bool.eq_false_iff.mpr c74
                 subst c74
                 have H1 : (if x4_3 = true then (if x5_3 = true then (if x6_3 = true then (if x7_3 = true then (imageeditorlaw11_RasterBoxes.l0 kj59 true true true true l0_2 (l0_2.length : Int) (wrap64 (x82_3 + 1)) a0_0 a0_1 l0_2 t497 t498 t499 t500) else (imageeditorlaw11_RasterBoxes.l0 kj59 true true true ((wrap64 (Int.tdiv x82_3 a0_0)) == (wrap64 ((wrap64 (t498 + t500)) - 1))) l0_2 (l0_2.length : Int) (wrap64 (x82_3 + 1)) a0_0 a0_1 l0_2 t497 t498 t499 t500)) else (if x7_3 = true then (imageeditorlaw11_RasterBoxes.l0 kj59 true true ((wrap64 (Int.tdiv x82_3 a0_0)) == t498) true l0_2 (l0_2.length : Int) (wrap64 (x82_3 + 1)) a0_0 a0_1 l0_2 t497 t498 t499 t500) else (imageeditorlaw11_RasterBoxes.l0 kj59 true true ((wrap64 (Int.tdiv x82_3 a0_0)) == t498) ((wrap64 (Int.tdiv x82_3 a0_0)) == (wrap64 ((wrap64 (t498 + t500)) - 1))) l0_2 (l0_2.length : Int) (wrap64 (x82_3 + 1)) a0_0 a0_1 l0_2 t497 t498 t499 t500))) else (if x6_3 = true then (if x7_3 = true then (imageeditorlaw11_RasterBoxes.l0 kj59 true ((Int.tmod x82_3 a0_0) == (wrap64 ((wrap64 (t497 + t499)) - 1))) true true l0_2 (l0_2.length : Int) (wrap64 (x82_3 + 1)) a0_0 a0_1 l0_2 t497 t498 t499 t500) else (imageeditorlaw11_RasterBoxes.l0 kj59 true ((Int.tmod x82_3 a0_0) == (wrap64 ((wrap64 (t497 + t499)) - 1))) true ((wrap64 (Int.tdiv x82_3 a0_0)) == (wrap64 ((wrap64 (t498 + t500)) - 1))) l0_2 (l0_2.length : Int) (wrap64 (x82_3 + 1)) a0_0 a0_1 l0_2 t497 t498 t499 t500)) else (if x7_3 = true then (imageeditorlaw11_RasterBoxes.l0 kj59 true ((Int.tmod x82_3 a0_0) == (wrap64 ((wrap64 (t497 + t499)) - 1))) ((wrap64 (Int.tdiv x82_3 a0_0)) == t498) true l0_2 (l0_2.length : Int) (wrap64 (x82_3 + 1)) a0_0 a0_1 l0_2 t497 t498 t499 t500) else (imageeditorlaw11_RasterBoxes.l0 kj59 true ((Int.tmod x82_3 a0_0) == (wrap64 ((wrap64 (t497 + t499)) - 1))) ((wrap64 (Int.tdiv x82_3 a0_0)) == t498) ((wrap64 (Int.tdiv x82_3 a0_0)) == (wrap64 ((wrap64 (t498 + t500)) - 1))) l0_2 (l0_2.length : Int) (wrap64 (x82_3 + 1)) a0_0 a0_1 l0_2 t497 t498 t499 t500)))) else (if x5_3 = true then (if x6_3 = true then (if x7_3 = true then (imageeditorlaw11_RasterBoxes.l0 kj59 ((Int.tmod x82_3 a0_0) == t497) true true true l0_2 (l0_2.length : Int) (wrap64 (x82_3 + 1)) a0_0 a0_1 l0_2 t497 t498 t499 t500) else (imageeditorlaw11_RasterBoxes.l0 kj59 ((Int.tmod x82_3 a0_0) == t497) true true ((wrap64 (Int.tdiv x82_3 a0_0)) == (wrap64 ((wrap64 (t498 + t500)) - 1))) l0_2 (l0_2.length : Int) (wrap64 (x82_3 + 1)) a0_0 a0_1 l0_2 t497 t498 t499 t500)) else (if x7_3 = true then (imageeditorlaw11_RasterBoxes.l0 kj59 ((Int.tmod x82_3 a0_0) == t497) true ((wrap64 (Int.tdiv x82_3 a0_0)) == t498) true l0_2 (l0_2.length : Int) (wrap64 (x82_3 + 1)) a0_0 a0_1 l0_2 t497 t498 t499 t500) else (imageeditorlaw11_RasterBoxes.l0 kj59 ((Int.tmod x82_3 a0_0) == t497) true ((wrap64 (Int.tdiv x82_3 a0_0)) == t498) ((wrap64 (Int.tdiv x82_3 a0_0)) == (wrap64 ((wrap64 (t498 + t500)) - 1))) l0_2 (l0_2.length : Int) (wrap64 (x82_3 + 1)) a0_0 a0_1 l0_2 t497 t498 t499 t500))) else (if x6_3 = true then (if x7_3 = true then (imageeditorlaw11_RasterBoxes.l0 kj59 ((Int.tmod x82_3 a0_0) == t497) ((Int.tmod x82_3 a0_0) == (wrap64 ((wrap64 (t497 + t499)) - 1))) true true l0_2 (l0_2.length : Int) (wrap64 (x82_3 + 1)) a0_0 a0_1 l0_2 t497 t498 t499 t500) else (imageeditorlaw11_RasterBoxes.l0 kj59 ((Int.tmod x82_3 a0_0) == t497) ((Int.tmod x82_3 a0_0) == (wrap64 ((wrap64 (t497 + t499)) - 1))) true ((wrap64 (Int.tdiv x82_3 a0_0)) == (wrap64 ((wrap64 (t498 + t500)) - 1))) l0_2 (l0_2.length : Int) (wrap64 (x82_3 + 1)) a0_0 a0_1 l0_2 t497 t498 t499 t500)) else (if x7_3 = true then (imageeditorlaw11_RasterBoxes.l0 kj59 ((Int.tmod x82_3 a0_0) == t497) ((Int.tmod x82_3 a0_0) == (wrap64 ((wrap64 (t497 + t499)) - 1))) ((wrap64 (Int.tdiv x82_3 a0_0)) == t498) true l0_2 (l0_2.length : Int) (wrap64 (x82_3 + 1)) a0_0 a0_1 l0_2 t497 t498 t499 t500) else (imageeditorlaw11_RasterBoxes.l0 kj59 ((Int.tmod x82_3 a0_0) == t497) ((Int.tmod x82_3 a0_0) == (wrap64 ((wrap64 (t497 + t499)) - 1))) ((wrap64 (Int.tdiv x82_3 a0_0)) == t498) ((wrap64 (Int.tdiv x82_3 a0_0)) == (wrap64 ((wrap64 (t498 + t500)) - 1))) l0_2 (l0_2.length : Int) (wrap64 (x82_3 + 1)) a0_0 a0_1 l0_2 t497 t498 t499 t500))))) = some r := by rw [if_neg (show ¬ (false = true) by decide)] at H; exact H
                 clear H
                 have H := H1
                 clear H1
                 by_cases c75 : x4_3 = true
                 ·subst c75
                  have H1 : (if x5_3 = true then (if x6_3 = true then (if x7_3 = true then (imageeditorlaw11_RasterBoxes.l0 kj59 true true true true l0_2 (l0_2.length : Int) (wrap64 (x82_3 + 1)) a0_0 a0_1 l0_2 t497 t498 t499 t500) else (imageeditorlaw11_RasterBoxes.l0 kj59 true true true ((wrap64 (Int.tdiv x82_3 a0_0)) == (wrap64 ((wrap64 (t498 + t500)) - 1))) l0_2 (l0_2.length : Int) (wrap64 (x82_3 + 1)) a0_0 a0_1 l0_2 t497 t498 t499 t500)) else (if x7_3 = true then (imageeditorlaw11_RasterBoxes.l0 kj59 true true ((wrap64 (Int.tdiv x82_3 a0_0)) == t498) true l0_2 (l0_2.length : Int) (wrap64 (x82_3 + 1)) a0_0 a0_1 l0_2 t497 t498 t499 t500) else (imageeditorlaw11_RasterBoxes.l0 kj59 true true ((wrap64 (Int.tdiv x82_3 a0_0)) == t498) ((wrap64 (Int.tdiv x82_3 a0_0)) == (wrap64 ((wrap64 (t498 + t500)) - 1))) l0_2 (l0_2.length : Int) (wrap64 (x82_3 + 1)) a0_0 a0_1 l0_2 t497 t498 t499 t500))) else (if x6_3 = true then (if x7_3 = true then (imageeditorlaw11_RasterBoxes.l0 kj59 true ((Int.tmod x82_3 a0_0) == (wrap64 ((wrap64 (t497 + t499)) - 1))) true true l0_2 (l0_2.length : Int) (wrap64 (x82_3 + 1)) a0_0 a0_1 l0_2 t497 t498 t499 t500) else (imageeditorlaw11_RasterBoxes.l0 kj59 true ((Int.tmod x82_3 a0_0) == (wrap64 ((wrap64 (t497 + t499)) - 1))) true ((wrap64 (Int.tdiv x82_3 a0_0)) == (wrap64 ((wrap64 (t498 + t500)) - 1))) l0_2 (l0_2.length : Int) (wrap64 (x82_3 + 1)) a0_0 a0_1 l0_2 t497 t498 t499 t500)) else (if x7_3 = true then (imageeditorlaw11_RasterBoxes.l0 kj59 true ((Int.tmod x82_3 a0_0) == (wrap64 ((wrap64 (t497 + t499)) - 1))) ((wrap64 (Int.tdiv x82_3 a0_0)) == t498) true l0_2 (l0_2.length : Int) (wrap64 (x82_3 + 1)) a0_0 a0_1 l0_2 t497 t498 t499 t500) else (imageeditorlaw11_RasterBoxes.l0 kj59 true ((Int.tmod x82_3 a0_0) == (wrap64 ((wrap64 (t497 + t499)) - 1))) ((wrap64 (Int.tdiv x82_3 a0_0)) == t498) ((wrap64 (Int.tdiv x82_3 a0_0)) == (wrap64 ((wrap64 (t498 + t500)) - 1))) l0_2 (l0_2.length : Int) (wrap64 (x82_3 + 1)) a0_0 a0_1 l0_2 t497 t498 t499 t500)))) = some r := by rw [if_pos rfl] at H; exact H
                  clear H
                  have H := H1
                  clear H1
                  by_cases c76 : x5_3 = true
                  ·subst c76
                   have H1 : (if x6_3 = true then (if x7_3 = true then (imageeditorlaw11_RasterBoxes.l0 kj59 true true true true l0_2 (l0_2.length : Int) (wrap64 (x82_3 + 1)) a0_0 a0_1 l0_2 t497 t498 t499 t500) else (imageeditorlaw11_RasterBoxes.l0 kj59 true true true ((wrap64 (Int.tdiv x82_3 a0_0)) == (wrap64 ((wrap64 (t498 + t500)) - 1))) l0_2 (l0_2.length : Int) (wrap64 (x82_3 + 1)) a0_0 a0_1 l0_2 t497 t498 t499 t500)) else (if x7_3 = true then (imageeditorlaw11_RasterBoxes.l0 kj59 true true ((wrap64 (Int.tdiv x82_3 a0_0)) == t498) true l0_2 (l0_2.length : Int) (wrap64 (x82_3 + 1)) a0_0 a0_1 l0_2 t497 t498 t499 t500) else (imageeditorlaw11_RasterBoxes.l0 kj59 true true ((wrap64 (Int.tdiv x82_3 a0_0)) == t498) ((wrap64 (Int.tdiv x82_3 a0_0)) == (wrap64 ((wrap64 (t498 + t500)) - 1))) l0_2 (l0_2.length : Int) (wrap64 (x82_3 + 1)) a0_0 a0_1 l0_2 t497 t498 t499 t500))) = some r := by rw [if_pos rfl] at H; exact H
                   clear H
                   have H := H1
                   clear H1
                   by_cases c77 : x6_3 = true
                   ·subst c77
                    have H1 : (if x7_3 = true then (imageeditorlaw11_RasterBoxes.l0 kj59 true true true true l0_2 (l0_2.length : Int) (wrap64 (x82_3 + 1)) a0_0 a0_1 l0_2 t497 t498 t499 t500) else (imageeditorlaw11_RasterBoxes.l0 kj59 true true true ((wrap64 (Int.tdiv x82_3 a0_0)) == (wrap64 ((wrap64 (t498 + t500)) - 1))) l0_2 (l0_2.length : Int) (wrap64 (x82_3 + 1)) a0_0 a0_1 l0_2 t497 t498 t499 t500)) = some r := by rw [if_pos rfl] at H; exact H
                    clear H
                    have H := H1
                    clear H1
                    by_cases c78 : x7_3 = true
                    ·subst c78
                     have H1 : (imageeditorlaw11_RasterBoxes.l0 kj59 true true true true l0_2 (l0_2.length : Int) (wrap64 (x82_3 + 1)) a0_0 a0_1 l0_2 t497 t498 t499 t500) = some r := by rw [if_pos rfl] at H; exact H
                     clear H
                     have H := H1
                     clear H1
                     as_aux_lemma =>
                      have H' := Aside0.mk H
                      clear H
                      go_wp2
                      repeat (go_quiet (fail); try go_wp2)
                      go_roundg kj59
                      case measure => have := HJ1.out; have := HJ21.out; have := HK3.out; have := HJ59.out; omega
                      case rel => exact ⟨(true), (true), (true), (true), (wrap64 (x82_3 + 1)), (by first | rfl | (simp; done) | (simp [*]; done)), (by first | rfl | (simp; done) | (simp [*]; done)), (by first | rfl | (simp; done) | (simp [*]; done)), (by first | rfl | (simp; done) | (simp [*]; done)), (by first | rfl | (simp; done) | (simp [*]; done)), H', ⟨by have := HJ1.out; have := HJ21.out; have := HK3.out; have := HJ59.out; omega⟩, ⟨by exact zk0 BK492⟩, ⟨by exact zk0 BK501⟩, ⟨by exact zb0 HB⟩⟩
                    ·replace c78 := Bool.eq_false_iff.mpr c78
                     subst c78
                     have H1 : (imageeditorlaw11_RasterBoxes.l0 kj59 true true true ((wrap64 (Int.tdiv x82_3 a0_0)) == (wrap64 ((wrap64 (t498 + t500)) - 1))) l0_2 (l0_2.length : Int) (wrap64 (x82_3 + 1)) a0_0 a0_1 l0_2 t497 t498 t499 t500) = some r := by rw [if_neg (show ¬ (false = true) by decide)] at H; exact H
                     clear H
                     have H := H1
                     clear H1
                     as_aux_lemma =>
                      have H' := Aside0.mk H
                      clear H
                      obtain ⟨hcz79_0, hcz79_1, hcz79_2, hcz79_3, hfz79_0, hfz79_1, hfz79_2, hfz79_3⟩ := zq4 BK501
                      go_wp2
                      repeat (go_quiet (fail); try go_wp2)
                      go_roundg kj59
                      case measure => have := HJ1.out; have := HJ21.out; have := HK3.out; have := HJ59.out; omega
                      case rel => exact ⟨(true), (true), (true), (((wrap64 (Int.tdiv x82_3 a0_0)) == (wrap64 ((wrap64 (t498 + t500)) - 1)))), (wrap64 (x82_3 + 1)), (by first | rfl | (simp; done) | (simp [*]; done)), (by first | rfl | (simp; done) | (simp [*]; done)), (by first | rfl | (simp; done) | (simp [*]; done)), (by first | rfl | (simp; done) | (simp [*]; done)), (by first | rfl | (simp; done) | (simp [*]; done)), H', ⟨by have := HJ1.out; have := HJ21.out; have := HK3.out; have := HJ59.out; omega⟩, ⟨by exact zk0 BK492⟩, ⟨by exact zk0 BK501⟩, ⟨by exact zb0 HB⟩⟩
                   ·replace c77 := Bool.eq_false_iff.mpr c77
                    subst c77
                    have H1 : (if x7_3 = true then (imageeditorlaw11_RasterBoxes.l0 kj59 true true ((wrap64 (Int.tdiv x82_3 a0_0)) == t498) true l0_2 (l0_2.length : Int) (wrap64 (x82_3 + 1)) a0_0 a0_1 l0_2 t497 t498 t499 t500) else (imageeditorlaw11_RasterBoxes.l0 kj59 true true ((wrap64 (Int.tdiv x82_3 a0_0)) == t498) ((wrap64 (Int.tdiv x82_3 a0_0)) == (wrap64 ((wrap64 (t498 + t500)) - 1))) l0_2 (l0_2.length : Int) (wrap64 (x82_3 + 1)) a0_0 a0_1 l0_2 t497 t498 t499 t500)) = some r := by rw [if_neg (show ¬ (false = true) by decide)] at H; exact H
                    clear H
                    have H := H1
                    clear H1
                    by_cases c80 : x7_3 = true
                    ·subst c80
                     have H1 : (imageeditorlaw11_RasterBoxes.l0 kj59 true true ((wrap64 (Int.tdiv x82_3 a0_0)) == t498) true l0_2 (l0_2.length : Int) (wrap64 (x82_3 + 1)) a0_0 a0_1 l0_2 t497 t498 t499 t500) = some r := by rw [if_pos rfl] at H; exact H
                     clear H
                     have H := H1
                     clear H1
                     as_aux_lemma =>
                      have H' := Aside0.mk H
                      clear H
                      obtain ⟨hcz81_0, hcz81_1, hcz81_2, hcz81_3, hfz81_0, hfz81_1, hfz81_2, hfz81_3⟩ := zq4 BK501
                      go_wp2
                      repeat (go_quiet (fail); try go_wp2)
                      go_roundg kj59
                      case measure => have := HJ1.out; have := HJ21.out; have := HK3.out; have := HJ59.out; omega
                      case rel => exact ⟨(true), (true), (((wrap64 (Int.tdiv x82_3 a0_0)) == t498)), (true), (wrap64 (x82_3 + 1)), (by first | rfl | (simp; done) | (simp [*]; done)), (by first | rfl | (simp; done) | (simp [*]; done)), (by first | rfl | (simp; done) | (simp [*]; done)), (by first | rfl | (simp; done) | (simp [*]; done)), (by first | rfl | (simp; done) | (simp [*]; done)), H', ⟨by have := HJ1.out; have := HJ21.out; have := HK3.out; have := HJ59.out; omega⟩, ⟨by exact zk0 BK492⟩, ⟨by exact zk0 BK501⟩, ⟨by exact zb0 HB⟩⟩
                    ·replace c80 := Bool.eq_false_iff.mpr c80
                     subst c80
                     have H1 : (imageeditorlaw11_RasterBoxes.l0 kj59 true true ((wrap64 (Int.tdiv x82_3 a0_0)) == t498) ((wrap64 (Int.tdiv x82_3 a0_0)) == (wrap64 ((wrap64 (t498 + t500)) - 1))) l0_2 (l0_2.length : Int) (wrap64 (x82_3 + 1)) a0_0 a0_1 l0_2 t497 t498 t499 t500) = some r := by rw [if_neg (show ¬ (false = true) by decide)] at H; exact H
                     clear H
                     have H := H1
                     clear H1
                     as_aux_lemma =>
                      have H' := Aside0.mk H
                      clear H
                      obtain ⟨hcz82_0, hcz82_1, hcz82_2, hcz82_3, hfz82_0, hfz82_1, hfz82_2, hfz82_3⟩ := zq4 BK501
                      go_wp2
                      repeat (go_quiet (fail); try go_wp2)
                      go_roundg kj59
                      case measure => have := HJ1.out; have := HJ21.out; have := HK3.out; have := HJ59.out; omega
                      case rel => exact ⟨(true), (true), (((wrap64 (Int.tdiv x82_3 a0_0)) == t498)), (((wrap64 (Int.tdiv x82_3 a0_0)) == (wrap64 ((wrap64 (t498 + t500)) - 1)))), (wrap64 (x82_3 + 1)), (by first | rfl | (simp; done) | (simp [*]; done)), (by first | rfl | (simp; done) | (simp [*]; done)), (by first | rfl | (simp; done) | (simp [*]; done)), (by first | rfl | (simp; done) | (simp [*]; done)), (by first | rfl | (simp; done) | (simp [*]; done)), H', ⟨by have := HJ1.out; have := HJ21.out; have := HK3.out; have := HJ59.out; omega⟩, ⟨by exact zk0 BK492⟩, ⟨by exact zk0 BK501⟩, ⟨by exact zb0 HB⟩⟩
                  ·replace c76 := Bool.eq_false_iff.mpr c76
                   subst c76
                   have H1 : (if x6_3 = true then (if x7_3 = true then (imageeditorlaw11_RasterBoxes.l0 kj59 true ((Int.tmod x82_3 a0_0) == (wrap64 ((wrap64 (t497 + t499)) - 1))) true true l0_2 (l0_2.length : Int) (wrap64 (x82_3 + 1)) a0_0 a0_1 l0_2 t497 t498 t499 t500) else (imageeditorlaw11_RasterBoxes.l0 kj59 true ((Int.tmod x82_3 a0_0) == (wrap64 ((wrap64 (t497 + t499)) - 1))) true ((wrap64 (Int.tdiv x82_3 a0_0)) == (wrap64 ((wrap64 (t498 + t500)) - 1))) l0_2 (l0_2.length : Int) (wrap64 (x82_3 + 1)) a0_0 a0_1 l0_2 t497 t498 t499 t500)) else (if x7_3 = true then (imageeditorlaw11_RasterBoxes.l0 kj59 true ((Int.tmod x82_3 a0_0) == (wrap64 ((wrap64 (t497 + t499)) - 1))) ((wrap64 (Int.tdiv x82_3 a0_0)) == t498) true l0_2 (l0_2.length : Int) (wrap64 (x82_3 + 1)) a0_0 a0_1 l0_2 t497 t498 t499 t500) else (imageeditorlaw11_RasterBoxes.l0 kj59 true ((Int.tmod x82_3 a0_0) == (wrap64 ((wrap64 (t497 + t499)) - 1))) ((wrap64 (Int.tdiv x82_3 a0_0)) == t498) ((wrap64 (Int.tdiv x82_3 a0_0)) == (wrap64 ((wrap64 (t498 + t500)) - 1))) l0_2 (l0_2.length : Int) (wrap64 (x82_3 + 1)) a0_0 a0_1 l0_2 t497 t498 t499 t500))) = some r := by rw [if_neg (show ¬ (false = true) by decide)] at H; exact H
                   clear H
                   have H := H1
                   clear H1
                   by_cases c83 : x6_3 = true
                   ·subst c83
                    have H1 : (if x7_3 = true then (imageeditorlaw11_RasterBoxes.l0 kj59 true ((Int.tmod x82_3 a0_0) == (wrap64 ((wrap64 (t497 + t499)) - 1))) true true l0_2 (l0_2.length : Int) (wrap64 (x82_3 + 1)) a0_0 a0_1 l0_2 t497 t498 t499 t500) else (imageeditorlaw11_RasterBoxes.l0 kj59 true ((Int.tmod x82_3 a0_0) == (wrap64 ((wrap64 (t497 + t499)) - 1))) true ((wrap64 (Int.tdiv x82_3 a0_0)) == (wrap64 ((wrap64 (t498 + t500)) - 1))) l0_2 (l0_2.length : Int) (wrap64 (x82_3 + 1)) a0_0 a0_1 l0_2 t497 t498 t499 t500)) = some r := by rw [if_pos rfl] at H; exact H
                    clear H
                    have H := H1
                    clear H1
                    by_cases c84 : x7_3 = true
                    ·subst c84
                     have H1 : (imageeditorlaw11_RasterBoxes.l0 kj59 true ((Int.tmod x82_3 a0_0) == (wrap64 ((wrap64 (t497 + t499)) - 1))) true true l0_2 (l0_2.length : Int) (wrap64 (x82_3 + 1)) a0_0 a0_1 l0_2 t497 t498 t499 t500) = some r := by rw [if_pos rfl] at H; exact H
                     clear H
                     have H := H1
                     clear H1
                     as_aux_lemma =>
                      have H' := Aside0.mk H
                      clear H
                      obtain ⟨hcz85_0, hcz85_1, hcz85_2, hcz85_3, hfz85_0, hfz85_1, hfz85_2, hfz85_3⟩ := zq4 BK501
                      go_wp2
                      repeat (go_quiet (fail); try go_wp2)
                      go_roundg kj59
                      case measure => have := HJ1.out; have := HJ21.out; have := HK3.out; have := HJ59.out; omega
                      case rel => exact ⟨(true), (((Int.tmod x82_3 a0_0) == (wrap64 ((wrap64 (t497 + t499)) - 1)))), (true), (true), (wrap64 (x82_3 + 1)), (by first | rfl | (simp; done) | (simp [*]; done)), (by first | rfl | (simp; done) | (simp [*]; done)), (by first | rfl | (simp; done) | (simp [*]; done)), (by first | rfl | (simp; done) | (simp [*]; done)), (by first | rfl | (simp; done) | (simp [*]; done)), H', ⟨by have := HJ1.out; have := HJ21.out; have := HK3.out; have := HJ59.out; omega⟩, ⟨by exact zk0 BK492⟩, ⟨by exact zk0 BK501⟩, ⟨by exact zb0 HB⟩⟩
                    ·replace c84 := Bool.eq_false_iff.mpr c84
                     subst c84
                     have H1 : (imageeditorlaw11_RasterBoxes.l0 kj59 true ((Int.tmod x82_3 a0_0) == (wrap64 ((wrap64 (t497 + t499)) - 1))) true ((wrap64 (Int.tdiv x82_3 a0_0)) == (wrap64 ((wrap64 (t498 + t500)) - 1))) l0_2 (l0_2.length : Int) (wrap64 (x82_3 + 1)) a0_0 a0_1 l0_2 t497 t498 t499 t500) = some r := by rw [if_neg (show ¬ (false = true) by decide)] at H; exact H
                     clear H
                     have H := H1
                     clear H1
                     as_aux_lemma =>
                      have H' := Aside0.mk H
                      clear H
                      obtain ⟨hcz86_0, hcz86_1, hcz86_2, hcz86_3, hfz86_0, hfz86_1, hfz86_2, hfz86_3⟩ := zq4 BK501
                      go_wp2
                      repeat (go_quiet (fail); try go_wp2)
                      go_roundg kj59
                      case measure => have := HJ1.out; have := HJ21.out; have := HK3.out; have := HJ59.out; omega
                      case rel => exact ⟨(true), (((Int.tmod x82_3 a0_0) == (wrap64 ((wrap64 (t497 + t499)) - 1)))), (true), (((wrap64 (Int.tdiv x82_3 a0_0)) == (wrap64 ((wrap64 (t498 + t500)) - 1)))), (wrap64 (x82_3 + 1)), (by first | rfl | (simp; done) | (simp [*]; done)), (by first | rfl | (simp; done) | (simp [*]; done)), (by first | rfl | (simp; done) | (simp [*]; done)), (by first | rfl | (simp; done) | (simp [*]; done)), (by first | rfl | (simp; done) | (simp [*]; done)), H', ⟨by have := HJ1.out; have := HJ21.out; have := HK3.out; have := HJ59.out; omega⟩, ⟨by exact zk0 BK492⟩, ⟨by exact zk0 BK501⟩, ⟨by exact zb0 HB⟩⟩
                   ·replace c83 := Bool.eq_false_iff.mpr c83
                    subst c83
                    have H1 : (if x7_3 = true then (imageeditorlaw11_RasterBoxes.l0 kj59 true ((Int.tmod x82_3 a0_0) == (wrap64 ((wrap64 (t497 + t499)) - 1))) ((wrap64 (Int.tdiv x82_3 a0_0)) == t498) true l0_2 (l0_2.length : Int) (wrap64 (x82_3 + 1)) a0_0 a0_1 l0_2 t497 t498 t499 t500) else (imageeditorlaw11_RasterBoxes.l0 kj59 true ((Int.tmod x82_3 a0_0) == (wrap64 ((wrap64 (t497 + t499)) - 1))) ((wrap64 (Int.tdiv x82_3 a0_0)) == t498) ((wrap64 (Int.tdiv x82_3 a0_0)) == (wrap64 ((wrap64 (t498 + t500)) - 1))) l0_2 (l0_2.length : Int) (wrap64 (x82_3 + 1)) a0_0 a0_1 l0_2 t497 t498 t499 t500)) = some r := by rw [if_neg (show ¬ (false = true) by decide)] at H; exact H
                    clear H
                    have H := H1
                    clear H1
                    by_cases c87 : x7_3 = true
                    ·subst c87
                     have H1 : (imageeditorlaw11_RasterBoxes.l0 kj59 true ((Int.tmod x82_3 a0_0) == (wrap64 ((wrap64 (t497 + t499)) - 1))) ((wrap64 (Int.tdiv x82_3 a0_0)) == t498) true l0_2 (l0_2.length : Int) (wrap64 (x82_3 + 1)) a0_0 a0_1 l0_2 t497 t498 t499 t500) = some r := by rw [if_pos rfl] at H; exact H
                     clear H
                     have H := H1
                     clear H1
                     as_aux_lemma =>
                      have H' := Aside0.mk H
                      clear H
                      obtain ⟨hcz88_0, hcz88_1, hcz88_2, hcz88_3, hfz88_0, hfz88_1, hfz88_2, hfz88_3⟩ := zq4 BK501
                      go_wp2
                      repeat (go_quiet (fail); try go_wp2)
                      go_roundg kj59
                      case measure => have := HJ1.out; have := HJ21.out; have := HK3.out; have := HJ59.out; omega
                      case rel => exact ⟨(true), (((Int.tmod x82_3 a0_0) == (wrap64 ((wrap64 (t497 + t499)) - 1)))), (((wrap64 (Int.tdiv x82_3 a0_0)) == t498)), (true), (wrap64 (x82_3 + 1)), (by first | rfl | (simp; done) | (simp [*]; done)), (by first | rfl | (simp; done) | (simp [*]; done)), (by first | rfl | (simp; done) | (simp [*]; done)), (by first | rfl | (simp; done) | (simp [*]; done)), (by first | rfl | (simp; done) | (simp [*]; done)), H', ⟨by have := HJ1.out; have := HJ21.out; have := HK3.out; have := HJ59.out; omega⟩, ⟨by exact zk0 BK492⟩, ⟨by exact zk0 BK501⟩, ⟨by exact zb0 HB⟩⟩
                    ·replace c87 := Bool.eq_false_iff.mpr c87
                     subst c87
                     have H1 : (imageeditorlaw11_RasterBoxes.l0 kj59 true ((Int.tmod x82_3 a0_0) == (wrap64 ((wrap64 (t497 + t499)) - 1))) ((wrap64 (Int.tdiv x82_3 a0_0)) == t498) ((wrap64 (Int.tdiv x82_3 a0_0)) == (wrap64 ((wrap64 (t498 + t500)) - 1))) l0_2 (l0_2.length : Int) (wrap64 (x82_3 + 1)) a0_0 a0_1 l0_2 t497 t498 t499 t500) = some r := by rw [if_neg (show ¬ (false = true) by decide)] at H; exact H
                     clear H
                     have H := H1
                     clear H1
                     as_aux_lemma =>
                      have H' := Aside0.mk H
                      clear H
                      obtain ⟨hcz89_0, hcz89_1, hcz89_2, hcz89_3, hfz89_0, hfz89_1, hfz89_2, hfz89_3⟩ := zq4 BK501
                      go_wp2
                      repeat (go_quiet (fail); try go_wp2)
                      go_roundg kj59
                      case measure => have := HJ1.out; have := HJ21.out; have := HK3.out; have := HJ59.out; omega
                      case rel => exact ⟨(true), (((Int.tmod x82_3 a0_0) == (wrap64 ((wrap64 (t497 + t499)) - 1)))), (((wrap64 (Int.tdiv x82_3 a0_0)) == t498)), (((wrap64 (Int.tdiv x82_3 a0_0)) == (wrap64 ((wrap64 (t498 + t500)) - 1)))), (wrap64 (x82_3 + 1)), (by first | rfl | (simp; done) | (simp [*]; done)), (by first | rfl | (simp; done) | (simp [*]; done)), (by first | rfl | (simp; done) | (simp [*]; done)), (by first | rfl | (simp; done) | (simp [*]; done)), (by first | rfl | (simp; done) | (simp [*]; done)), H', ⟨by have := HJ1.out; have := HJ21.out; have := HK3.out; have := HJ59.out; omega⟩, ⟨by exact zk0 BK492⟩, ⟨by exact zk0 BK501⟩, ⟨by exact zb0 HB⟩⟩
                 ·replace c75 := Bool.eq_false_iff.mpr c75
                  subst c75
                  have H1 : (if x5_3 = true then (if x6_3 = true then (if x7_3 = true then (imageeditorlaw11_RasterBoxes.l0 kj59 ((Int.tmod x82_3 a0_0) == t497) true true true l0_2 (l0_2.length : Int) (wrap64 (x82_3 + 1)) a0_0 a0_1 l0_2 t497 t498 t499 t500) else (imageeditorlaw11_RasterBoxes.l0 kj59 ((Int.tmod x82_3 a0_0) == t497) true true ((wrap64 (Int.tdiv x82_3 a0_0)) == (wrap64 ((wrap64 (t498 + t500)) - 1))) l0_2 (l0_2.length : Int) (wrap64 (x82_3 + 1)) a0_0 a0_1 l0_2 t497 t498 t499 t500)) else (if x7_3 = true then (imageeditorlaw11_RasterBoxes.l0 kj59 ((Int.tmod x82_3 a0_0) == t497) true ((wrap64 (Int.tdiv x82_3 a0_0)) == t498) true l0_2 (l0_2.length : Int) (wrap64 (x82_3 + 1)) a0_0 a0_1 l0_2 t497 t498 t499 t500) else (imageeditorlaw11_RasterBoxes.l0 kj59 ((Int.tmod x82_3 a0_0) == t497) true ((wrap64 (Int.tdiv x82_3 a0_0)) == t498) ((wrap64 (Int.tdiv x82_3 a0_0)) == (wrap64 ((wrap64 (t498 + t500)) - 1))) l0_2 (l0_2.length : Int) (wrap64 (x82_3 + 1)) a0_0 a0_1 l0_2 t497 t498 t499 t500))) else (if x6_3 = true then (if x7_3 = true then (imageeditorlaw11_RasterBoxes.l0 kj59 ((Int.tmod x82_3 a0_0) == t497) ((Int.tmod x82_3 a0_0) == (wrap64 ((wrap64 (t497 + t499)) - 1))) true true l0_2 (l0_2.length : Int) (wrap64 (x82_3 + 1)) a0_0 a0_1 l0_2 t497 t498 t499 t500) else (imageeditorlaw11_RasterBoxes.l0 kj59 ((Int.tmod x82_3 a0_0) == t497) ((Int.tmod x82_3 a0_0) == (wrap64 ((wrap64 (t497 + t499)) - 1))) true ((wrap64 (Int.tdiv x82_3 a0_0)) == (wrap64 ((wrap64 (t498 + t500)) - 1))) l0_2 (l0_2.length : Int) (wrap64 (x82_3 + 1)) a0_0 a0_1 l0_2 t497 t498 t499 t500)) else (if x7_3 = true then (imageeditorlaw11_RasterBoxes.l0 kj59 ((Int.tmod x82_3 a0_0) == t497) ((Int.tmod x82_3 a0_0) == (wrap64 ((wrap64 (t497 + t499)) - 1))) ((wrap64 (Int.tdiv x82_3 a0_0)) == t498) true l0_2 (l0_2.length : Int) (wrap64 (x82_3 + 1)) a0_0 a0_1 l0_2 t497 t498 t499 t500) else (imageeditorlaw11_RasterBoxes.l0 kj59 ((Int.tmod x82_3 a0_0) == t497) ((Int.tmod x82_3 a0_0) == (wrap64 ((wrap64 (t497 + t499)) - 1))) ((wrap64 (Int.tdiv x82_3 a0_0)) == t498) ((wrap64 (Int.tdiv x82_3 a0_0)) == (wrap64 ((wrap64 (t498 + t500)) - 1))) l0_2 (l0_2.length : Int) (wrap64 (x82_3 + 1)) a0_0 a0_1 l0_2 t497 t498 t499 t500)))) = some r := by rw [if_neg (show ¬ (false = true) by decide)] at H; exact H
                  clear H
                  have H := H1
                  clear H1
                  by_cases c90 : x5_3 = true
                  ·subst c90
                   have H1 : (if x6_3 = true then (if x7_3 = true then (imageeditorlaw11_RasterBoxes.l0 kj59 ((Int.tmod x82_3 a0_0) == t497) true true true l0_2 (l0_2.length : Int) (wrap64 (x82_3 + 1)) a0_0 a0_1 l0_2 t497 t498 t499 t500) else (imageeditorlaw11_RasterBoxes.l0 kj59 ((Int.tmod x82_3 a0_0) == t497) true true ((wrap64 (Int.tdiv x82_3 a0_0)) == (wrap64 ((wrap64 (t498 + t500)) - 1))) l0_2 (l0_2.length : Int) (wrap64 (x82_3 + 1)) a0_0 a0_1 l0_2 t497 t498 t499 t500)) else (if x7_3 = true then (imageeditorlaw11_RasterBoxes.l0 kj59 ((Int.tmod x82_3 a0_0) == t497) true ((wrap64 (Int.tdiv x82_3 a0_0)) == t498) true l0_2 (l0_2.length : Int) (wrap64 (x82_3 + 1)) a0_0 a0_1 l0_2 t497 t498 t499 t500) else (imageeditorlaw11_RasterBoxes.l0 kj59 ((Int.tmod x82_3 a0_0) == t497) true ((wrap64 (Int.tdiv x82_3 a0_0)) == t498) ((wrap64 (Int.tdiv x82_3 a0_0)) == (wrap64 ((wrap64 (t498 + t500)) - 1))) l0_2 (l0_2.length : Int) (wrap64 (x82_3 + 1)) a0_0 a0_1 l0_2 t497 t498 t499 t500))) = some r := by rw [if_pos rfl] at H; exact H
                   clear H
                   have H := H1
                   clear H1
                   by_cases c91 : x6_3 = true
                   ·subst c91
                    have H1 : (if x7_3 = true then (imageeditorlaw11_RasterBoxes.l0 kj59 ((Int.tmod x82_3 a0_0) == t497) true true true l0_2 (l0_2.length : Int) (wrap64 (x82_3 + 1)) a0_0 a0_1 l0_2 t497 t498 t499 t500) else (imageeditorlaw11_RasterBoxes.l0 kj59 ((Int.tmod x82_3 a0_0) == t497) true true ((wrap64 (Int.tdiv x82_3 a0_0)) == (wrap64 ((wrap64 (t498 + t500)) - 1))) l0_2 (l0_2.length : Int) (wrap64 (x82_3 + 1)) a0_0 a0_1 l0_2 t497 t498 t499 t500)) = some r := by rw [if_pos rfl] at H; exact H
                    clear H
                    have H := H1
                    clear H1
                    by_cases c92 : x7_3 = true
                    ·subst c92
                     have H1 : (imageeditorlaw11_RasterBoxes.l0 kj59 ((Int.tmod x82_3 a0_0) == t497) true true true l0_2 (l0_2.length : Int) (wrap64 (x82_3 + 1)) a0_0 a0_1 l0_2 t497 t498 t499 t500) = some r := by rw [if_pos rfl] at H; exact H
                     clear H
                     have H := H1
                     clear H1
                     as_aux_lemma =>
                      have H' := Aside0.mk H
                      clear H
                      obtain ⟨hcz93_0, hcz93_1, hcz93_2, hcz93_3, hfz93_0, hfz93_1, hfz93_2, hfz93_3⟩ := zq4 BK501
                      go_wp2
                      repeat (go_quiet (fail); try go_wp2)
                      go_roundg kj59
                      case measure => have := HJ1.out; have := HJ21.out; have := HK3.out; have := HJ59.out; omega
                      case rel => exact ⟨(((Int.tmod x82_3 a0_0) == t497)), (true), (true), (true), (wrap64 (x82_3 + 1)), (by first | rfl | (simp; done) | (simp [*]; done)), (by first | rfl | (simp; done) | (simp [*]; done)), (by first | rfl | (simp; done) | (simp [*]; done)), (by first | rfl | (simp; done) | (simp [*]; done)), (by first | rfl | (simp; done) | (simp [*]; done)), H', ⟨by have := HJ1.out; have := HJ21.out; have := HK3.out; have := HJ59.out; omega⟩, ⟨by exact zk0 BK492⟩, ⟨by exact zk0 BK501⟩, ⟨by exact zb0 HB⟩⟩
                    ·replace c92 := Bool.eq_false_iff.mpr c92
                     subst c92
                     have H1 : (imageeditorlaw11_RasterBoxes.l0 kj59 ((Int.tmod x82_3 a0_0) == t497) true true ((wrap64 (Int.tdiv x82_3 a0_0)) == (wrap64 ((wrap64 (t498 + t500)) - 1))) l0_2 (l0_2.length : Int) (wrap64 (x82_3 + 1)) a0_0 a0_1 l0_2 t497 t498 t499 t500) = some r := by rw [if_neg (show ¬ (false = true) by decide)] at H; exact H
                     clear H
                     have H := H1
                     clear H1
                     as_aux_lemma =>
                      have H' := Aside0.mk H
                      clear H
                      obtain ⟨hcz94_0, hcz94_1, hcz94_2, hcz94_3, hfz94_0, hfz94_1, hfz94_2, hfz94_3⟩ := zq4 BK501
                      go_wp2
                      repeat (go_quiet (fail); try go_wp2)
                      go_roundg kj59
                      case measure => have := HJ1.out; have := HJ21.out; have := HK3.out; have := HJ59.out; omega
                      case rel => exact ⟨(((Int.tmod x82_3 a0_0) == t497)), (true), (true), (((wrap64 (Int.tdiv x82_3 a0_0)) == (wrap64 ((wrap64 (t498 + t500)) - 1)))), (wrap64 (x82_3 + 1)), (by first | rfl | (simp; done) | (simp [*]; done)), (by first | rfl | (simp; done) | (simp [*]; done)), (by first | rfl | (simp; done) | (simp [*]; done)), (by first | rfl | (simp; done) | (simp [*]; done)), (by first | rfl | (simp; done) | (simp [*]; done)), H', ⟨by have := HJ1.out; have := HJ21.out; have := HK3.out; have := HJ59.out; omega⟩, ⟨by exact zk0 BK492⟩, ⟨by exact zk0 BK501⟩, ⟨by exact zb0 HB⟩⟩
                   ·replace c91 := Bool.eq_false_iff.mpr c91
                    subst c91
                    have H1 : (if x7_3 = true then (imageeditorlaw11_RasterBoxes.l0 kj59 ((Int.tmod x82_3 a0_0) == t497) true ((wrap64 (Int.tdiv x82_3 a0_0)) == t498) true l0_2 (l0_2.length : Int) (wrap64 (x82_3 + 1)) a0_0 a0_1 l0_2 t497 t498 t499 t500) else (imageeditorlaw11_RasterBoxes.l0 kj59 ((Int.tmod x82_3 a0_0) == t497) true ((wrap64 (Int.tdiv x82_3 a0_0)) == t498) ((wrap64 (Int.tdiv x82_3 a0_0)) == (wrap64 ((wrap64 (t498 + t500)) - 1))) l0_2 (l0_2.length : Int) (wrap64 (x82_3 + 1)) a0_0 a0_1 l0_2 t497 t498 t499 t500)) = some r := by rw [if_neg (show ¬ (false = true) by decide)] at H; exact H
                    clear H
                    have H := H1
                    clear H1
                    by_cases c95 : x7_3 = true
                    ·subst c95
                     have H1 : (imageeditorlaw11_RasterBoxes.l0 kj59 ((Int.tmod x82_3 a0_0) == t497) true ((wrap64 (Int.tdiv x82_3 a0_0)) == t498) true l0_2 (l0_2.length : Int) (wrap64 (x82_3 + 1)) a0_0 a0_1 l0_2 t497 t498 t499 t500) = some r := by rw [if_pos rfl] at H; exact H
                     clear H
                     have H := H1
                     clear H1
                     as_aux_lemma =>
                      have H' := Aside0.mk H
                      clear H
                      obtain ⟨hcz96_0, hcz96_1, hcz96_2, hcz96_3, hfz96_0, hfz96_1, hfz96_2, hfz96_3⟩ := zq4 BK501
                      go_wp2
                      repeat (go_quiet (fail); try go_wp2)
                      go_roundg kj59
                      case measure => have := HJ1.out; have := HJ21.out; have := HK3.out; have := HJ59.out; omega
                      case rel => exact ⟨(((Int.tmod x82_3 a0_0) == t497)), (true), (((wrap64 (Int.tdiv x82_3 a0_0)) == t498)), (true), (wrap64 (x82_3 + 1)), (by first | rfl | (simp; done) | (simp [*]; done)), (by first | rfl | (simp; done) | (simp [*]; done)), (by first | rfl | (simp; done) | (simp [*]; done)), (by first | rfl | (simp; done) | (simp [*]; done)), (by first | rfl | (simp; done) | (simp [*]; done)), H', ⟨by have := HJ1.out; have := HJ21.out; have := HK3.out; have := HJ59.out; omega⟩, ⟨by exact zk0 BK492⟩, ⟨by exact zk0 BK501⟩, ⟨by exact zb0 HB⟩⟩
                    ·replace c95 := Bool.eq_false_iff.mpr c95
                     subst c95
                     have H1 : (imageeditorlaw11_RasterBoxes.l0 kj59 ((Int.tmod x82_3 a0_0) == t497) true ((wrap64 (Int.tdiv x82_3 a0_0)) == t498) ((wrap64 (Int.tdiv x82_3 a0_0)) == (wrap64 ((wrap64 (t498 + t500)) - 1))) l0_2 (l0_2.length : Int) (wrap64 (x82_3 + 1)) a0_0 a0_1 l0_2 t497 t498 t499 t500) = some r := by rw [if_neg (show ¬ (false = true) by decide)] at H; exact H
                     clear H
                     have H := H1
                     clear H1
                     as_aux_lemma =>
                      have H' := Aside0.mk H
                      clear H
                      obtain ⟨hcz97_0, hcz97_1, hcz97_2, hcz97_3, hfz97_0, hfz97_1, hfz97_2, hfz97_3⟩ := zq4 BK501
                      go_wp2
                      repeat (go_quiet (fail); try go_wp2)
                      go_roundg kj59
                      case measure => have := HJ1.out; have := HJ21.out; have := HK3.out; have := HJ59.out; omega
                      case rel => exact ⟨(((Int.tmod x82_3 a0_0) == t497)), (true), (((wrap64 (Int.tdiv x82_3 a0_0)) == t498)), (((wrap64 (Int.tdiv x82_3 a0_0)) == (wrap64 ((wrap64 (t498 + t500)) - 1)))), (wrap64 (x82_3 + 1)), (by first | rfl | (simp; done) | (simp [*]; done)), (by first | rfl | (simp; done) | (simp [*]; done)), (by first | rfl | (simp; done) | (simp [*]; done)), (by first | rfl | (simp; done) | (simp [*]; done)), (by first | rfl | (simp; done) | (simp [*]; done)), H', ⟨by have := HJ1.out; have := HJ21.out; have := HK3.out; have := HJ59.out; omega⟩, ⟨by exact zk0 BK492⟩, ⟨by exact zk0 BK501⟩, ⟨by exact zb0 HB⟩⟩
                  ·replace c90 := Bool.eq_false_iff.mpr c90
                   subst c90
                   have H1 : (if x6_3 = true then (if x7_3 = true then (imageeditorlaw11_RasterBoxes.l0 kj59 ((Int.tmod x82_3 a0_0) == t497) ((Int.tmod x82_3 a0_0) == (wrap64 ((wrap64 (t497 + t499)) - 1))) true true l0_2 (l0_2.length : Int) (wrap64 (x82_3 + 1)) a0_0 a0_1 l0_2 t497 t498 t499 t500) else (imageeditorlaw11_RasterBoxes.l0 kj59 ((Int.tmod x82_3 a0_0) == t497) ((Int.tmod x82_3 a0_0) == (wrap64 ((wrap64 (t497 + t499)) - 1))) true ((wrap64 (Int.tdiv x82_3 a0_0)) == (wrap64 ((wrap64 (t498 + t500)) - 1))) l0_2 (l0_2.length : Int) (wrap64 (x82_3 + 1)) a0_0 a0_1 l0_2 t497 t498 t499 t500)) else (if x7_3 = true then (imageeditorlaw11_RasterBoxes.l0 kj59 ((Int.tmod x82_3 a0_0) == t497) ((Int.tmod x82_3 a0_0) == (wrap64 ((wrap64 (t497 + t499)) - 1))) ((wrap64 (Int.tdiv x82_3 a0_0)) == t498) true l0_2 (l0_2.length : Int) (wrap64 (x82_3 + 1)) a0_0 a0_1 l0_2 t497 t498 t499 t500) else (imageeditorlaw11_RasterBoxes.l0 kj59 ((Int.tmod x82_3 a0_0) == t497) ((Int.tmod x82_3 a0_0) == (wrap64 ((wrap64 (t497 + t499)) - 1))) ((wrap64 (Int.tdiv x82_3 a0_0)) == t498) ((wrap64 (Int.tdiv x82_3 a0_0)) == (wrap64 ((wrap64 (t498 + t500)) - 1))) l0_2 (l0_2.length : Int) (wrap64 (x82_3 + 1)) a0_0 a0_1 l0_2 t497 t498 t499 t500))) = some r := by rw [if_neg (show ¬ (false = true) by decide)] at H; exact H
                   clear H
                   have H := H1
                   clear H1
                   by_cases c98 : x6_3 = true
                   ·subst c98
                    have H1 : (if x7_3 = true then (imageeditorlaw11_RasterBoxes.l0 kj59 ((Int.tmod x82_3 a0_0) == t497) ((Int.tmod x82_3 a0_0) == (wrap64 ((wrap64 (t497 + t499)) - 1))) true true l0_2 (l0_2.length : Int) (wrap64 (x82_3 + 1)) a0_0 a0_1 l0_2 t497 t498 t499 t500) else (imageeditorlaw11_RasterBoxes.l0 kj59 ((Int.tmod x82_3 a0_0) == t497) ((Int.tmod x82_3 a0_0) == (wrap64 ((wrap64 (t497 + t499)) - 1))) true ((wrap64 (Int.tdiv x82_3 a0_0)) == (wrap64 ((wrap64 (t498 + t500)) - 1))) l0_2 (l0_2.length : Int) (wrap64 (x82_3 + 1)) a0_0 a0_1 l0_2 t497 t498 t499 t500)) = some r := by rw [if_pos rfl] at H; exact H
                    clear H
                    have H := H1
                    clear H1
                    by_cases c99 : x7_3 = true
                    ·subst c99
                     have H1 : (imageeditorlaw11_RasterBoxes.l0 kj59 ((Int.tmod x82_3 a0_0) == t497) ((Int.tmod x82_3 a0_0) == (wrap64 ((wrap64 (t497 + t499)) - 1))) true true l0_2 (l0_2.length : Int) (wrap64 (x82_3 + 1)) a0_0 a0_1 l0_2 t497 t498 t499 t500) = some r := by rw [if_pos rfl] at H; exact H
                     clear H
                     have H := H1
                     clear H1
                     as_aux_lemma =>
                      have H' := Aside0.mk H
                      clear H
                      obtain ⟨hcz100_0, hcz100_1, hcz100_2, hcz100_3, hfz100_0, hfz100_1, hfz100_2, hfz100_3⟩ := zq4 BK501
                      go_wp2
                      repeat (go_quiet (fail); try go_wp2)
                      go_roundg kj59
                      case measure => have := HJ1.out; have := HJ21.out; have := HK3.out; have := HJ59.out; omega
                      case rel => exact ⟨(((Int.tmod x82_3 a0_0) == t497)), (((Int.tmod x82_3 a0_0) == (wrap64 ((wrap64 (t497 + t499)) - 1)))), (true), (true), (wrap64 (x82_3 + 1)), (by first | rfl | (simp; done) | (simp [*]; done)), (by first | rfl | (simp; done) | (simp [*]; done)), (by first | rfl | (simp; done) | (simp [*]; done)), (by first | rfl | (simp; done) | (simp [*]; done)), (by first | rfl | (simp; done) | (simp [*]; done)), H', ⟨by have := HJ1.out; have := HJ21.out; have := HK3.out; have := HJ59.out; omega⟩, ⟨by exact zk0 BK492⟩, ⟨by exact zk0 BK501⟩, ⟨by exact zb0 HB⟩⟩
                    ·replace c99 := Bool.eq_false_iff.mpr c99
                     subst c99
                     have H1 : (imageeditorlaw11_RasterBoxes.l0 kj59 ((Int.tmod x82_3 a0_0) == t497) ((Int.tmod x82_3 a0_0) == (wrap64 ((wrap64 (t497 + t499)) - 1))) true ((wrap64 (Int.tdiv x82_3 a0_0)) == (wrap64 ((wrap64 (t498 + t500)) - 1))) l0_2 (l0_2.length : Int) (wrap64 (x82_3 + 1)) a0_0 a0_1 l0_2 t497 t498 t499 t500) = some r := by rw [if_neg (show ¬ (false = true) by decide)] at H; exact H
                     clear H
                     have H := H1
                     clear H1
                     as_aux_lemma =>
                      have H' := Aside0.mk H
                      clear H
                      obtain ⟨hcz101_0, hcz101_1, hcz101_2, hcz101_3, hfz101_0, hfz101_1, hfz101_2, hfz101_3⟩ := zq4 BK501
                      go_wp2
                      repeat (go_quiet (fail); try go_wp2)
                      go_roundg kj59
                      case measure => have := HJ1.out; have := HJ21.out; have := HK3.out; have := HJ59.out; omega
                      case rel => exact ⟨(((Int.tmod x82_3 a0_0) == t497)), (((Int.tmod x82_3 a0_0) == (wrap64 ((wrap64 (t497 + t499)) - 1)))), (true), (((wrap64 (Int.tdiv x82_3 a0_0)) == (wrap64 ((wrap64 (t498 + t500)) - 1)))), (wrap64 (x82_3 + 1)), (by first | rfl | (simp; done) | (simp [*]; done)), (by first | rfl | (simp; done) | (simp [*]; done)), (by first | rfl | (simp; done) | (simp [*]; done)), (by first | rfl | (simp; done) | (simp [*]; done)), (by first | rfl | (simp; done) | (simp [*]; done)), H', ⟨by have := HJ1.out; have := HJ21.out; have := HK3.out; have := HJ59.out; omega⟩, ⟨by exact zk0 BK492⟩, ⟨by exact zk0 BK501⟩, ⟨by exact zb0 HB⟩⟩
                   ·replace c98 := Bool.eq_false_iff.mpr c98
                    subst c98
                    have H1 : (if x7_3 = true then (imageeditorlaw11_RasterBoxes.l0 kj59 ((Int.tmod x82_3 a0_0) == t497) ((Int.tmod x82_3 a0_0) == (wrap64 ((wrap64 (t497 + t499)) - 1))) ((wrap64 (Int.tdiv x82_3 a0_0)) == t498) true l0_2 (l0_2.length : Int) (wrap64 (x82_3 + 1)) a0_0 a0_1 l0_2 t497 t498 t499 t500) else (imageeditorlaw11_RasterBoxes.l0 kj59 ((Int.tmod x82_3 a0_0) == t497) ((Int.tmod x82_3 a0_0) == (wrap64 ((wrap64 (t497 + t499)) - 1))) ((wrap64 (Int.tdiv x82_3 a0_0)) == t498) ((wrap64 (Int.tdiv x82_3 a0_0)) == (wrap64 ((wrap64 (t498 + t500)) - 1))) l0_2 (l0_2.length : Int) (wrap64 (x82_3 + 1)) a0_0 a0_1 l0_2 t497 t498 t499 t500)) = some r := by rw [if_neg (show ¬ (false = true) by decide)] at H; exact H
                    clear H
                    have H := H1
                    clear H1
                    by_cases c102 : x7_3 = true
                    ·subst c102
                     have H1 : (imageeditorlaw11_RasterBoxes.l0 kj59 ((Int.tmod x82_3 a0_0) == t497) ((Int.tmod x82_3 a0_0) == (wrap64 ((wrap64 (t497 + t499)) - 1))) ((wrap64 (Int.tdiv x82_3 a0_0)) == t498) true l0_2 (l0_2.length : Int) (wrap64 (x82_3 + 1)) a0_0 a0_1 l0_2 t497 t498 t499 t500) = some r := by rw [if_pos rfl] at H; exact H
                     clear H
                     have H := H1
                     clear H1
                     as_aux_lemma =>
                      have H' := Aside0.mk H
                      clear H
                      obtain ⟨hcz103_0, hcz103_1, hcz103_2, hcz103_3, hfz103_0, hfz103_1, hfz103_2, hfz103_3⟩ := zq4 BK501
                      go_wp2
                      repeat (go_quiet (fail); try go_wp2)
                      go_roundg kj59
                      case measure => have := HJ1.out; have := HJ21.out; have := HK3.out; have := HJ59.out; omega
                      case rel => exact ⟨(((Int.tmod x82_3 a0_0) == t497)), (((Int.tmod x82_3 a0_0) == (wrap64 ((wrap64 (t497 + t499)) - 1)))), (((wrap64 (Int.tdiv x82_3 a0_0)) == t498)), (true), (wrap64 (x82_3 + 1)), (by first | rfl | (simp; done) | (simp [*]; done)), (by first | rfl | (simp; done) | (simp [*]; done)), (by first | rfl | (simp; done) | (simp [*]; done)), (by first | rfl | (simp; done) | (simp [*]; done)), (by first | rfl | (simp; done) | (simp [*]; done)), H', ⟨by have := HJ1.out; have := HJ21.out; have := HK3.out; have := HJ59.out; omega⟩, ⟨by exact zk0 BK492⟩, ⟨by exact zk0 BK501⟩, ⟨by exact zb0 HB⟩⟩
                    ·replace c102 := Bool.eq_false_iff.mpr c102
                     subst c102
                     have H1 : (imageeditorlaw11_RasterBoxes.l0 kj59 ((Int.tmod x82_3 a0_0) == t497) ((Int.tmod x82_3 a0_0) == (wrap64 ((wrap64 (t497 + t499)) - 1))) ((wrap64 (Int.tdiv x82_3 a0_0)) == t498) ((wrap64 (Int.tdiv x82_3 a0_0)) == (wrap64 ((wrap64 (t498 + t500)) - 1))) l0_2 (l0_2.length : Int) (wrap64 (x82_3 + 1)) a0_0 a0_1 l0_2 t497 t498 t499 t500) = some r := by rw [if_neg (show ¬ (false = true) by decide)] at H; exact H
                     clear H
                     have H := H1
                     clear H1
                     as_aux_lemma =>
                      have H' := Aside0.mk H
                      clear H
                      obtain ⟨hcz104_0, hcz104_1, hcz104_2, hcz104_3, hfz104_0, hfz104_1, hfz104_2, hfz104_3⟩ := zq4 BK501
                      go_wp2
                      repeat (go_quiet (fail); try go_wp2)
                      go_roundg kj59
                      case measure => have := HJ1.out; have := HJ21.out; have := HK3.out; have := HJ59.out; omega
                      case rel => exact ⟨(((Int.tmod x82_3 a0_0) == t497)), (((Int.tmod x82_3 a0_0) == (wrap64 ((wrap64 (t497 + t499)) - 1)))), (((wrap64 (Int.tdiv x82_3 a0_0)) == t498)), (((wrap64 (Int.tdiv x82_3 a0_0)) == (wrap64 ((wrap64 (t498 + t500)) - 1)))), (wrap64 (x82_3 + 1)), (by first | rfl | (simp; done) | (simp [*]; done)), (by first | rfl | (simp; done) | (simp [*]; done)), (by first | rfl | (simp; done) | (simp [*]; done)), (by first | rfl | (simp; done) | (simp [*]; done)), (by first | rfl | (simp; done) | (simp [*]; done)), H', ⟨by have := HJ1.out; have := HJ21.out; have := HK3.out; have := HJ59.out; omega⟩, ⟨by exact zk0 BK492⟩, ⟨by exact zk0 BK501⟩, ⟨by exact zb0 HB⟩⟩
           ·rw [if_neg c51] at H
            exact absurd H (by simp)
          ·rw [if_neg c50] at H
           exact absurd H (by simp)
         ·rw [if_neg c49] at H
          have c49b0 : decide (x82_3 < (l0_2.length : Int)) = false := decide_eq_false c49
          clear c49
          by_cases c105 : (t497 == 0 && (t498 == 0 && (t499 == 0 && (t500 == 0)))) = true
          ·rw [if_pos c105] at H
           have c105b0 : (t497 == 0 && (t498 == 0 && (t499 == 0 && (t500 == 0)))) = true := c105
           (try (have c105b1 : decide (t497 = 0 && (t498 == 0 && (t499 == 0 && (t500 == 0)))) = true := by simpa using c105))
           (try (have c105b2 : (t497 == 0 && (t498 == 0 && (t499 == 0 && (t500 == 0)))) = true := by simpa using c105))
           clear c105
           as_aux_lemma =>
            obtain rfl := Option.some.inj H
            obtain ⟨hcz106_0, hcz106_1, hcz106_2, hcz106_3, hfz106_0, hfz106_1, hfz106_2, hfz106_3⟩ := zq4 BK501
            go_wp2
            repeat (go_quiet (fail); try go_wp2)
            go_ret
            exact ⟨by first | rfl | (simp [errW_none, errW_some] <;> rfl) | (simp [*, errW_none, errW_some] <;> rfl), by exact zb0 HB⟩
          ·rw [if_neg c105] at H
           have c105b0 : (t497 == 0 && (t498 == 0 && (t499 == 0 && (t500 == 0)))) = false := by simpa using c105
           (try (have c105b1 : decide (t497 = 0 && (t498 == 0 && (t499 == 0 && (t500 == 0)))) = false := by simpa using c105))
           (try (have c105b2 : (t497 == 0 && (t498 == 0 && (t499 == 0 && (t500 == 0)))) = false := by simpa using c105))
           (try (have c105b3 : ¬ (t497 = 0 && (t498 == 0 && (t499 == 0 && (t500 == 0)))) := by simpa using c105))
           clear c105
           by_cases c107 : x4_3 = true
           ·subst c107
            have H1 : (if x5_3 = true then (if x6_3 = true then (some x7_3) else (some false)) else (some false)) = some r := by rw [if_pos rfl] at H; exact H
            clear H
            have H := H1
            clear H1
            by_cases c108 : x5_3 = true
            ·subst c108
             have H1 : (if x6_3 = true then (some x7_3) else (some false)) = some r := by rw [if_pos rfl] at H; exact H
             clear H
             have H := H1
             clear H1
             by_cases c109 : x6_3 = true
             ·subst c109
              have H1 : (some x7_3) = some r := by rw [if_pos rfl] at H; exact H
              clear H
              have H := H1
              clear H1
              as_aux_lemma =>
               obtain rfl := Option.some.inj H
               obtain ⟨hcz110_0, hcz110_1, hcz110_2, hcz110_3, hfz110_0, hfz110_1, hfz110_2, hfz110_3⟩ := zq4 BK501
               go_wp2
               repeat (go_quiet (fail); try go_wp2)
               go_ret
               exact ⟨by first | rfl | (simp [errW_none, errW_some] <;> rfl) | (simp [*, errW_none, errW_some] <;> rfl), by exact zb0 HB⟩
             ·replace c109 := Bool.eq_false_iff.mpr c109
              subst c109
              have H1 : (some false) = some r := by rw [if_neg (show ¬ (false = true) by decide)] at H; exact H
              clear H
              have H := H1
              clear H1
              as_aux_lemma =>
               exact absurd HT.out (by rw [← Option.some.inj H]; decide)
            ·replace c108 := Bool.eq_false_iff.mpr c108
             subst c108
             have H1 : (some false) = some r := by rw [if_neg (show ¬ (false = true) by decide)] at H; exact H
             clear H
             have H := H1
             clear H1
             as_aux_lemma =>
              exact absurd HT.out (by rw [← Option.some.inj H]; decide)
           ·replace c107 := Bool.eq_false_iff.mpr c107
            subst c107
            have H1 : (some false) = some r := by rw [if_neg (show ¬ (false = true) by decide)] at H; exact H
            clear H
            have H := H1
            clear H1
            as_aux_lemma =>
             exact absurd HT.out (by rw [← Option.some.inj H]; decide)

end Go.Proofs.Ytjepbimgddgijaa.G
