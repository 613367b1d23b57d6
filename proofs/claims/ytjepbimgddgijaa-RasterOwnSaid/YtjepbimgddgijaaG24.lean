/- Contracts of functions of the program, each as it is called: what it computes (.f), that it computes no less with more rounds (.mono), and that a call returns just that (.calls). No conditions but those that each contract names. Written by a program of this session (wip/gx.py over the kit's print). -/
import Derived.Test.YtjepbimgddgijaaG0
import Derived.Test.YtjepbimgddgijaaXPlus
import Derived.Test.YtjepbimgddgijaaG1
import Derived.Test.YtjepbimgddgijaaG5
import Derived.Test.YtjepbimgddgijaaG6
import Derived.Test.YtjepbimgddgijaaG8
import Derived.Test.YtjepbimgddgijaaG10
namespace Go.Proofs.Ytjepbimgddgijaa.G
open Go.RowKit Go.Proofs.YtjepbimgddgijaaW.PrintWords Go.Proofs.YtjepbimgddgijaaW.PrintLast Go.Proofs.YtjepbimgddgijaaW.PrintMore
attribute [local go_sem] max2_int min2_int max_two min_two max_three min_three max_four min_four   -- for this text's walks alone
set_option linter.unusedVariables false
set_option linter.unusedSimpArgs false


/-! ### imageeditorlaw11_RasterOwn: function 14 -/
mutual
def imageeditorlaw11_RasterOwn.l0 : Nat → List (S26) → Int → Int → Int → Int → List (S26) → Int → Int → Int → Int → Int → Int → List (S26) → Int → Int → List (S26) → Int → Int → List (S26) → Int → Int → List (S26) → Option (Bool)
 | 0, _, _, _, _, _, _, _, _, _, _, _, _, _, _, _, _, _, _, _, _, _, _ => none
 | k + 1, x5, x50, x51, x492000, x492001, x492002, x493000, x493001, x493002, x493003, x504000, x504001, x504002, x511000, x511001, x511002, x518000, x518001, x518002, x525000, x525001, x525002 => if x51 < x50 then (if 0 ≤ x51 then (if x51 < (x504002.length : Int) then (imageeditorlaw11_RasterOwn.l0 k x5 x50 (wrap64 (x51 + 1)) x492000 x492001 x492002 x493000 x493001 x493002 x493003 x504000 x504001 (x504002.set (x51 : Int).toNat (⟨1, 2, 3, 4⟩ : S26)) x511000 x511001 x511002 x518000 x518001 x518002 x525000 x525001 x525002) else (none)) else (none)) else (imageeditorlaw11_RasterOwn.l1 k x5 (x511002.length : Int) 0 x492000 x492001 x492002 x493000 x493001 x493002 x493003 x511000 x511001 x511002 x518000 x518001 x518002 x525000 x525001 x525002)
def imageeditorlaw11_RasterOwn.l1 : Nat → List (S26) → Int → Int → Int → Int → List (S26) → Int → Int → Int → Int → Int → Int → List (S26) → Int → Int → List (S26) → Int → Int → List (S26) → Option (Bool)
 | 0, _, _, _, _, _, _, _, _, _, _, _, _, _, _, _, _, _, _, _ => none
 | k + 1, x5, x62, x63, x492000, x492001, x492002, x493000, x493001, x493002, x493003, x511000, x511001, x511002, x518000, x518001, x518002, x525000, x525001, x525002 => if x63 < x62 then (if 0 ≤ x63 then (if x63 < (x511002.length : Int) then (imageeditorlaw11_RasterOwn.l1 k x5 x62 (wrap64 (x63 + 1)) x492000 x492001 x492002 x493000 x493001 x493002 x493003 x511000 x511001 (x511002.set (x63 : Int).toNat (⟨1, 2, 3, 4⟩ : S26)) x518000 x518001 x518002 x525000 x525001 x525002) else (none)) else (none)) else (imageeditorlaw11_RasterOwn.l2 k x5 (x518002.length : Int) 0 x492000 x492001 x492002 x493000 x493001 x493002 x493003 x518000 x518001 x518002 x525000 x525001 x525002)
def imageeditorlaw11_RasterOwn.l2 : Nat → List (S26) → Int → Int → Int → Int → List (S26) → Int → Int → Int → Int → Int → Int → List (S26) → Int → Int → List (S26) → Option (Bool)
 | 0, _, _, _, _, _, _, _, _, _, _, _, _, _, _, _, _ => none
 | k + 1, x5, x74, x75, x492000, x492001, x492002, x493000, x493001, x493002, x493003, x518000, x518001, x518002, x525000, x525001, x525002 => if x75 < x74 then (if 0 ≤ x75 then (if x75 < (x518002.length : Int) then (imageeditorlaw11_RasterOwn.l2 k x5 x74 (wrap64 (x75 + 1)) x492000 x492001 x492002 x493000 x493001 x493002 x493003 x518000 x518001 (x518002.set (x75 : Int).toNat (⟨1, 2, 3, 4⟩ : S26)) x525000 x525001 x525002) else (none)) else (none)) else ((raster_Crop.f k x492000 x492001 x5 x493000 x493001 x493002 x493003).bind fun bt528 => ((imageeditorlaw11_same.f k x492000 x492001 x5 x492000 x492001 x492002).bind fun t535 => (if t535 = true then ((imageeditorlaw11_same.f k x525000 x525001 x525002 bt528.1 bt528.2.1 bt528.2.2.1).bind fun t536 => (some t536)) else (some false))))
end
def imageeditorlaw11_RasterOwn.f (k : Nat) (a0_0 : Int) (a0_1 : Int) (l0_2 : List (S26)) (a1_0 : Int) (a1_1 : Int) (a1_2 : Int) (a1_3 : Int) : Option (Bool) := (imageeditorlaw11_awake.f k).bind fun t493 => (if t493 = true then (if ([] : List (S26)).length + l0_2.length < 4398046511104 then ((raster_Crop.f k a0_0 a0_1 l0_2 a1_0 a1_1 a1_2 a1_3).bind fun bt497 => ((raster_Put.f k a0_0 a0_1 l0_2 a0_0 a0_1 l0_2 0 0).bind fun bt504 => ((raster_Flip.f k a0_0 a0_1 l0_2 2).bind fun bt511 => ((raster_Crop.f k a0_0 a0_1 l0_2 a1_0 a1_1 a1_2 a1_3).bind fun bt518 => (imageeditorlaw11_RasterOwn.l0 k (([] : List (S26)) ++ l0_2) (bt497.2.2.1.length : Int) 0 a0_0 a0_1 l0_2 a1_0 a1_1 a1_2 a1_3 bt497.1 bt497.2.1 bt497.2.2.1 bt504.1 bt504.2.1 bt504.2.2.1 bt511.1 bt511.2.1 bt511.2.2.1 bt518.1 bt518.2.1 bt518.2.2.1))))) else (none)) else (some false))
theorem imageeditorlaw11_RasterOwn.mono_l : ∀ k, (∀ y0 y1 y2 y3 y4 y5 y6 y7 y8 y9 y10 y11 y12 y13 y14 y15 y16 y17 y18 y19 y20 y21, LeO (imageeditorlaw11_RasterOwn.l0 k y0 y1 y2 y3 y4 y5 y6 y7 y8 y9 y10 y11 y12 y13 y14 y15 y16 y17 y18 y19 y20 y21) (imageeditorlaw11_RasterOwn.l0 (k + 1) y0 y1 y2 y3 y4 y5 y6 y7 y8 y9 y10 y11 y12 y13 y14 y15 y16 y17 y18 y19 y20 y21)) ∧ (∀ y0 y1 y2 y3 y4 y5 y6 y7 y8 y9 y10 y11 y12 y13 y14 y15 y16 y17 y18, LeO (imageeditorlaw11_RasterOwn.l1 k y0 y1 y2 y3 y4 y5 y6 y7 y8 y9 y10 y11 y12 y13 y14 y15 y16 y17 y18) (imageeditorlaw11_RasterOwn.l1 (k + 1) y0 y1 y2 y3 y4 y5 y6 y7 y8 y9 y10 y11 y12 y13 y14 y15 y16 y17 y18)) ∧ (∀ y0 y1 y2 y3 y4 y5 y6 y7 y8 y9 y10 y11 y12 y13 y14 y15, LeO (imageeditorlaw11_RasterOwn.l2 k y0 y1 y2 y3 y4 y5 y6 y7 y8 y9 y10 y11 y12 y13 y14 y15) (imageeditorlaw11_RasterOwn.l2 (k + 1) y0 y1 y2 y3 y4 y5 y6 y7 y8 y9 y10 y11 y12 y13 y14 y15))
 | 0 => ⟨fun _ _ _ _ _ _ _ _ _ _ _ _ _ _ _ _ _ _ _ _ _ _ r h => by simp [imageeditorlaw11_RasterOwn.l0] at h, fun _ _ _ _ _ _ _ _ _ _ _ _ _ _ _ _ _ _ _ r h => by simp [imageeditorlaw11_RasterOwn.l1] at h, fun _ _ _ _ _ _ _ _ _ _ _ _ _ _ _ _ r h => by simp [imageeditorlaw11_RasterOwn.l2] at h⟩
 | k + 1 => by
  obtain ⟨ih0, ih1, ih2⟩ := imageeditorlaw11_RasterOwn.mono_l k
  refine ⟨?_, ?_, ?_⟩
  ·intro y0 y1 y2 y3 y4 y5 y6 y7 y8 y9 y10 y11 y12 y13 y14 y15 y16 y17 y18 y19 y20 y21
   unfold imageeditorlaw11_RasterOwn.l0
   repeat' first
   | (with_reducible exact ih0 _ _ _ _ _ _ _ _ _ _ _ _ _ _ _ _ _ _ _ _ _ _)
   | (with_reducible exact ih1 _ _ _ _ _ _ _ _ _ _ _ _ _ _ _ _ _ _ _)
   | (with_reducible exact ih2 _ _ _ _ _ _ _ _ _ _ _ _ _ _ _ _)
   | (with_reducible exact imageeditorlaw11_awake.mono _)
   | (with_reducible exact imageeditorlaw11_same.mono _ _ _ _ _ _ _)
   | (with_reducible exact raster_Crop.mono _ _ _ _ _ _ _ _)
   | (with_reducible exact raster_Flip.mono _ _ _ _ _)
   | (with_reducible exact raster_Put.mono _ _ _ _ _ _ _ _ _)
   | (with_reducible exact LeO.refl _)
   | (with_reducible exact LeO.none _)
   | (with_reducible refine LeO.ite ?_ ?_)
   | (with_reducible refine LeO.bind ?_ (fun _ => ?_))
   | exact ih0 _ _ _ _ _ _ _ _ _ _ _ _ _ _ _ _ _ _ _ _ _ _
   | exact ih1 _ _ _ _ _ _ _ _ _ _ _ _ _ _ _ _ _ _ _
   | exact ih2 _ _ _ _ _ _ _ _ _ _ _ _ _ _ _ _
   | exact imageeditorlaw11_awake.mono _
   | exact imageeditorlaw11_same.mono _ _ _ _ _ _ _
   | exact raster_Crop.mono _ _ _ _ _ _ _ _
   | exact raster_Flip.mono _ _ _ _ _
   | exact raster_Put.mono _ _ _ _ _ _ _ _ _
   | exact LeO.none _
   | refine LeO.ite ?_ ?_
   | refine LeO.bind ?_ (fun _ => ?_)
  ·intro y0 y1 y2 y3 y4 y5 y6 y7 y8 y9 y10 y11 y12 y13 y14 y15 y16 y17 y18
   unfold imageeditorlaw11_RasterOwn.l1
   repeat' first
   | (with_reducible exact ih0 _ _ _ _ _ _ _ _ _ _ _ _ _ _ _ _ _ _ _ _ _ _)
   | (with_reducible exact ih1 _ _ _ _ _ _ _ _ _ _ _ _ _ _ _ _ _ _ _)
   | (with_reducible exact ih2 _ _ _ _ _ _ _ _ _ _ _ _ _ _ _ _)
   | (with_reducible exact imageeditorlaw11_awake.mono _)
   | (with_reducible exact imageeditorlaw11_same.mono _ _ _ _ _ _ _)
   | (with_reducible exact raster_Crop.mono _ _ _ _ _ _ _ _)
   | (with_reducible exact raster_Flip.mono _ _ _ _ _)
   | (with_reducible exact raster_Put.mono _ _ _ _ _ _ _ _ _)
   | (with_reducible exact LeO.refl _)
   | (with_reducible exact LeO.none _)
   | (with_reducible refine LeO.ite ?_ ?_)
   | (with_reducible refine LeO.bind ?_ (fun _ => ?_))
   | exact ih0 _ _ _ _ _ _ _ _ _ _ _ _ _ _ _ _ _ _ _ _ _ _
   | exact ih1 _ _ _ _ _ _ _ _ _ _ _ _ _ _ _ _ _ _ _
   | exact ih2 _ _ _ _ _ _ _ _ _ _ _ _ _ _ _ _
   | exact imageeditorlaw11_awake.mono _
   | exact imageeditorlaw11_same.mono _ _ _ _ _ _ _
   | exact raster_Crop.mono _ _ _ _ _ _ _ _
   | exact raster_Flip.mono _ _ _ _ _
   | exact raster_Put.mono _ _ _ _ _ _ _ _ _
   | exact LeO.none _
   | refine LeO.ite ?_ ?_
   | refine LeO.bind ?_ (fun _ => ?_)
  ·intro y0 y1 y2 y3 y4 y5 y6 y7 y8 y9 y10 y11 y12 y13 y14 y15
   unfold imageeditorlaw11_RasterOwn.l2
   repeat' first
   | (with_reducible exact ih0 _ _ _ _ _ _ _ _ _ _ _ _ _ _ _ _ _ _ _ _ _ _)
   | (with_reducible exact ih1 _ _ _ _ _ _ _ _ _ _ _ _ _ _ _ _ _ _ _)
   | (with_reducible exact ih2 _ _ _ _ _ _ _ _ _ _ _ _ _ _ _ _)
   | (with_reducible exact imageeditorlaw11_awake.mono _)
   | (with_reducible exact imageeditorlaw11_same.mono _ _ _ _ _ _ _)
   | (with_reducible exact raster_Crop.mono _ _ _ _ _ _ _ _)
   | (with_reducible exact raster_Flip.mono _ _ _ _ _)
   | (with_reducible exact raster_Put.mono _ _ _ _ _ _ _ _ _)
   | (with_reducible exact LeO.refl _)
   | (with_reducible exact LeO.none _)
   | (with_reducible refine LeO.ite ?_ ?_)
   | (with_reducible refine LeO.bind ?_ (fun _ => ?_))
   | exact ih0 _ _ _ _ _ _ _ _ _ _ _ _ _ _ _ _ _ _ _ _ _ _
   | exact ih1 _ _ _ _ _ _ _ _ _ _ _ _ _ _ _ _ _ _ _
   | exact ih2 _ _ _ _ _ _ _ _ _ _ _ _ _ _ _ _
   | exact imageeditorlaw11_awake.mono _
   | exact imageeditorlaw11_same.mono _ _ _ _ _ _ _
   | exact raster_Crop.mono _ _ _ _ _ _ _ _
   | exact raster_Flip.mono _ _ _ _ _
   | exact raster_Put.mono _ _ _ _ _ _ _ _ _
   | exact LeO.none _
   | refine LeO.ite ?_ ?_
   | refine LeO.bind ?_ (fun _ => ?_)
theorem imageeditorlaw11_RasterOwn.mono : ∀ a0 a1 a2 a3 a4 a5 a6 k, LeO (imageeditorlaw11_RasterOwn.f k a0 a1 a2 a3 a4 a5 a6) (imageeditorlaw11_RasterOwn.f (k + 1) a0 a1 a2 a3 a4 a5 a6) := by
 intro a0 a1 a2 a3 a4 a5 a6 k
 obtain ⟨ih0, ih1, ih2⟩ := imageeditorlaw11_RasterOwn.mono_l k
 unfold imageeditorlaw11_RasterOwn.f
 repeat' first
   | (with_reducible exact ih0 _ _ _ _ _ _ _ _ _ _ _ _ _ _ _ _ _ _ _ _ _ _)
   | (with_reducible exact ih1 _ _ _ _ _ _ _ _ _ _ _ _ _ _ _ _ _ _ _)
   | (with_reducible exact ih2 _ _ _ _ _ _ _ _ _ _ _ _ _ _ _ _)
   | (with_reducible exact imageeditorlaw11_awake.mono _)
   | (with_reducible exact imageeditorlaw11_same.mono _ _ _ _ _ _ _)
   | (with_reducible exact raster_Crop.mono _ _ _ _ _ _ _ _)
   | (with_reducible exact raster_Flip.mono _ _ _ _ _)
   | (with_reducible exact raster_Put.mono _ _ _ _ _ _ _ _ _)
   | (with_reducible exact LeO.refl _)
   | (with_reducible exact LeO.none _)
   | (with_reducible refine LeO.ite ?_ ?_)
   | (with_reducible refine LeO.bind ?_ (fun _ => ?_))
   | exact ih0 _ _ _ _ _ _ _ _ _ _ _ _ _ _ _ _ _ _ _ _ _ _
   | exact ih1 _ _ _ _ _ _ _ _ _ _ _ _ _ _ _ _ _ _ _
   | exact ih2 _ _ _ _ _ _ _ _ _ _ _ _ _ _ _ _
   | exact imageeditorlaw11_awake.mono _
   | exact imageeditorlaw11_same.mono _ _ _ _ _ _ _
   | exact raster_Crop.mono _ _ _ _ _ _ _ _
   | exact raster_Flip.mono _ _ _ _ _
   | exact raster_Put.mono _ _ _ _ _ _ _ _ _
   | exact LeO.none _
   | refine LeO.ite ?_ ?_
   | refine LeO.bind ?_ (fun _ => ?_)
set_option maxHeartbeats 8000000 in
set_option maxRecDepth 100000 in
theorem imageeditorlaw11_RasterOwn.callsT (k : Nat) (a0_0 : Int) (a0_1 : Int) (A0_2 : Option Addr) (c0_2 : Nat) (l0_2 : List (S26)) (a1_0 : Int) (a1_1 : Int) (a1_2 : Int) (a1_3 : Int) (r : Bool) (w : World) (hr0_2 : Kd.C k26 w A0_2 l0_2.length l0_2) (hc0_2 : l0_2.length ≤ c0_2) (hT : r = true) (h : imageeditorlaw11_RasterOwn.f k a0_0 a0_1 l0_2 a1_0 a1_1 a1_2 a1_3 = some r) :
  Calls Try.prog 14 #[.agg #[.int .i64 a0_0, .int .i64 a0_1, .slice A0_2 l0_2.length c0_2], .agg #[.int .i64 a1_0, .int .i64 a1_1, .int .i64 a1_2, .int .i64 a1_3]] w fun e w' => e = .returned (.bool r) ∧ Below w.heap.size w w' := by
 have hu24 := Try.underlying24
 have hu37 := Try.underlying37
 have hu41 := Try.underlying41
 have hu26 := Try.underlying26
 have HT := Aside0.mk hT
 clear hT
 have HR0_2 := Aside0.mk hr0_2
 have HC0_2 := Aside0.mk hc0_2
 clear hr0_2 hc0_2
 have HB := Aside0.mk (Below.refl w.heap.size w)
 have H : ((imageeditorlaw11_awake.f k).bind fun t493 => (if t493 = true then (if ([] : List (S26)).length + l0_2.length < 4398046511104 then ((raster_Crop.f k a0_0 a0_1 l0_2 a1_0 a1_1 a1_2 a1_3).bind fun bt497 => ((raster_Put.f k a0_0 a0_1 l0_2 a0_0 a0_1 l0_2 0 0).bind fun bt504 => ((raster_Flip.f k a0_0 a0_1 l0_2 2).bind fun bt511 => ((raster_Crop.f k a0_0 a0_1 l0_2 a1_0 a1_1 a1_2 a1_3).bind fun bt518 => (imageeditorlaw11_RasterOwn.l0 k (([] : List (S26)) ++ l0_2) (bt497.2.2.1.length : Int) 0 a0_0 a0_1 l0_2 a1_0 a1_1 a1_2 a1_3 bt497.1 bt497.2.1 bt497.2.2.1 bt504.1 bt504.2.1 bt504.2.2.1 bt511.1 bt511.2.1 bt511.2.2.1 bt518.1 bt518.2.1 bt518.2.2.1))))) else (none)) else (some false))) = some r := h
 clear h
 replace H := Option.bind_eq_some_iff.mp H
 obtain ⟨t493, A30, H⟩ := H
 replace H : (if t493 = true then (if ([] : List (S26)).length + l0_2.length < 4398046511104 then ((raster_Crop.f k a0_0 a0_1 l0_2 a1_0 a1_1 a1_2 a1_3).bind fun bt497 => ((raster_Put.f k a0_0 a0_1 l0_2 a0_0 a0_1 l0_2 0 0).bind fun bt504 => ((raster_Flip.f k a0_0 a0_1 l0_2 2).bind fun bt511 => ((raster_Crop.f k a0_0 a0_1 l0_2 a1_0 a1_1 a1_2 a1_3).bind fun bt518 => (imageeditorlaw11_RasterOwn.l0 k (([] : List (S26)) ++ l0_2) (bt497.2.2.1.length : Int) 0 a0_0 a0_1 l0_2 a1_0 a1_1 a1_2 a1_3 bt497.1 bt497.2.1 bt497.2.2.1 bt504.1 bt504.2.1 bt504.2.2.1 bt511.1 bt511.2.1 bt511.2.2.1 bt518.1 bt518.2.1 bt518.2.2.1))))) else (none)) else (some false)) = some r := H
 have A3 := Aside0.mk A30
 clear A30
 by_cases c4 : t493 = true
 ·subst c4
  have H1 : (if ([] : List (S26)).length + l0_2.length < 4398046511104 then ((raster_Crop.f k a0_0 a0_1 l0_2 a1_0 a1_1 a1_2 a1_3).bind fun bt497 => ((raster_Put.f k a0_0 a0_1 l0_2 a0_0 a0_1 l0_2 0 0).bind fun bt504 => ((raster_Flip.f k a0_0 a0_1 l0_2 2).bind fun bt511 => ((raster_Crop.f k a0_0 a0_1 l0_2 a1_0 a1_1 a1_2 a1_3).bind fun bt518 => (imageeditorlaw11_RasterOwn.l0 k (([] : List (S26)) ++ l0_2) (bt497.2.2.1.length : Int) 0 a0_0 a0_1 l0_2 a1_0 a1_1 a1_2 a1_3 bt497.1 bt497.2.1 bt497.2.2.1 bt504.1 bt504.2.1 bt504.2.2.1 bt511.1 bt511.2.1 bt511.2.2.1 bt518.1 bt518.2.1 bt518.2.2.1))))) else (none)) = some r := by rw [if_pos rfl] at H; exact H
  clear H
  have H := H1
  clear H1
  by_cases c5 : ([] : List (S26)).length + l0_2.length < 4398046511104
  ·rw [if_pos c5] at H
   have LMc5 := Aside0.mk c5
   clear c5
   obtain ⟨y494, hy494⟩ : ∃ y_ : List (S26), y_ = (([] : List (S26)) ++ l0_2) := ⟨_, rfl⟩
   replace H : ((raster_Crop.f k a0_0 a0_1 l0_2 a1_0 a1_1 a1_2 a1_3).bind fun bt497 => ((raster_Put.f k a0_0 a0_1 l0_2 a0_0 a0_1 l0_2 0 0).bind fun bt504 => ((raster_Flip.f k a0_0 a0_1 l0_2 2).bind fun bt511 => ((raster_Crop.f k a0_0 a0_1 l0_2 a1_0 a1_1 a1_2 a1_3).bind fun bt518 => (imageeditorlaw11_RasterOwn.l0 k y494 (bt497.2.2.1.length : Int) 0 a0_0 a0_1 l0_2 a1_0 a1_1 a1_2 a1_3 bt497.1 bt497.2.1 bt497.2.2.1 bt504.1 bt504.2.1 bt504.2.2.1 bt511.1 bt511.2.1 bt511.2.2.1 bt518.1 bt518.2.1 bt518.2.2.1))))) = some r := by first | (rw [hy494]; with_reducible exact H) | (have H2_ := (Option.bind_some _ _).symm.trans H; rw [hy494]; with_reducible exact H2_) | (have H2_ := (Option.bind_some _ _).symm.trans H; with_reducible exact H2_) | with_reducible exact H | (rw [hy494]; exact H) | exact H
   have Ny494 := Aside0.mk hy494
   clear hy494
   replace H := Option.bind_eq_some_iff.mp H
   obtain ⟨⟨t497, t498, t499, t502⟩, A60, H⟩ := H
   replace H : ((raster_Put.f k a0_0 a0_1 l0_2 a0_0 a0_1 l0_2 0 0).bind fun bt504 => ((raster_Flip.f k a0_0 a0_1 l0_2 2).bind fun bt511 => ((raster_Crop.f k a0_0 a0_1 l0_2 a1_0 a1_1 a1_2 a1_3).bind fun bt518 => (imageeditorlaw11_RasterOwn.l0 k y494 (t499.length : Int) 0 a0_0 a0_1 l0_2 a1_0 a1_1 a1_2 a1_3 t497 t498 t499 bt504.1 bt504.2.1 bt504.2.2.1 bt511.1 bt511.2.1 bt511.2.2.1 bt518.1 bt518.2.1 bt518.2.2.1)))) = some r := H
   have A6 := Aside0.mk A60
   clear A60
   replace H := Option.bind_eq_some_iff.mp H
   obtain ⟨⟨t504, t505, t506, t509⟩, A70, H⟩ := H
   replace H : ((raster_Flip.f k a0_0 a0_1 l0_2 2).bind fun bt511 => ((raster_Crop.f k a0_0 a0_1 l0_2 a1_0 a1_1 a1_2 a1_3).bind fun bt518 => (imageeditorlaw11_RasterOwn.l0 k y494 (t499.length : Int) 0 a0_0 a0_1 l0_2 a1_0 a1_1 a1_2 a1_3 t497 t498 t499 t504 t505 t506 bt511.1 bt511.2.1 bt511.2.2.1 bt518.1 bt518.2.1 bt518.2.2.1))) = some r := H
   have A7 := Aside0.mk A70
   clear A70
   replace H := Option.bind_eq_some_iff.mp H
   obtain ⟨⟨t511, t512, t513, t516⟩, A80, H⟩ := H
   replace H : ((raster_Crop.f k a0_0 a0_1 l0_2 a1_0 a1_1 a1_2 a1_3).bind fun bt518 => (imageeditorlaw11_RasterOwn.l0 k y494 (t499.length : Int) 0 a0_0 a0_1 l0_2 a1_0 a1_1 a1_2 a1_3 t497 t498 t499 t504 t505 t506 t511 t512 t513 bt518.1 bt518.2.1 bt518.2.2.1)) = some r := H
   have A8 := Aside0.mk A80
   clear A80
   replace H := Option.bind_eq_some_iff.mp H
   obtain ⟨⟨t518, t519, t520, t523⟩, A90, H⟩ := H
   replace H : (imageeditorlaw11_RasterOwn.l0 k y494 (t499.length : Int) 0 a0_0 a0_1 l0_2 a1_0 a1_1 a1_2 a1_3 t497 t498 t499 t504 t505 t506 t511 t512 t513 t518 t519 t520) = some r := H
   have A9 := Aside0.mk A90
   clear A90
   have H' := Aside0.mk H
   clear H
   go_enter Try.func14, Try.ntmps14
   go_wp2_with (first | ((with_reducible refine gate_dst (N := 2) rfl ?_); refine box_event ?hg (N := 2) ?hd (cs := #[.int .i64 a0_0, .int .i64 a0_1, .slice A0_2 l0_2.length c0_2]) (t := 24) ?hr ?_; (case hd => rfl); (case hg => rfl); (case hr => first | (go_simp; done) | (go_simp; rfl)); intro gb491 hg w10 hbox hb; have GW491 := zg HB hg; have GE491 := zg HB hg; have n0_ := Aside0.mk (hbox); replace HB := zb HB hb; have BK491 := n0_; clear n0_; clear hb hbox hg) | ((with_reducible refine gate_dst (N := 3) rfl ?_); refine box_event ?hg (N := 3) ?hd (cs := #[.int .i64 a1_0, .int .i64 a1_1, .int .i64 a1_2, .int .i64 a1_3]) (t := 37) ?hr ?_; (case hd => rfl); (case hg => rfl); (case hr => first | (go_simp; done) | (go_simp; rfl)); intro gb492 hg w11 hbox hb; have GW492 := zg HB hg; have GE492 := zg HB hg; have NB491_492 := zn BK491 hg; have NB492_491 := zn' BK491 hg; have n0_ := Aside0.mk (hbox); replace BK491 := zk BK491 hb; replace HB := zb HB hb; have BK492 := n0_; clear n0_; clear hb hbox hg) | ((with_reducible refine gate_callee (f := 17) rfl ?_); refine goesL_ (some 19) rfl rfl Try.func17 (by kernel_rfl) rfl #[] rfl (by (try simp only [List.map_toArray, List.map_cons, List.map_nil]); first | done | rfl | (simp only [List.length_drop, List.length_take]; rfl)) ?_; (with_reducible refine (imageeditorlaw11_awake.calls k  true _ A3.out).mono ?_); rintro e w12 ⟨rfl, hb⟩; refine ⟨_, rfl, ?_⟩; replace BK491 := zk BK491 hb; replace BK492 := zk BK492 hb; replace HB := zb HB hb; (try clear hb); (try clear hb2); (try clear hk); (try clear hi); have hnb13 := NB491_492.out; have hnc13 := NB492_491.out; obtain ⟨hcz14_0, hcz14_1, hcz14_2, hfz14_0, hfz14_1, hfz14_2⟩ := zq3 BK491) | ((with_reducible refine gate_builtin (b := .append) (xs := #[.const (.slice none 0 0), .tmp 22]) rfl ?_); at_builtin; refine Kd.R_append_rows k26 (w0 := w) w.heap.size rfl (.const (.slice none 0 0)) (.tmp 22) 22 26 (.agg #[(.int .i64 0), (.int .i64 0), (.int .i64 0), (.int .i64 0)]) 32 rfl Try.underlying22 info26 rfl (by decide) (by omega) (.slice none 0 0) ([] : List (S26)) l0_2 _ _ _ (fun _ => True) (fun _ => False) rfl rfl ?aO ?aR (fun _ _ h => h) (fun _ h => h.elim) ?aF ?aB ?aS ?aL ?_; (case aR => repeat (first | exact (Kd.C_below HR0_2.out HB.out) | (with_reducible refine Kd.C_alloc ?_ _) | (with_reducible refine Kd.C_drewN ?_ _) | (with_reducible refine Kd.C_drew ?_))); (case aB => exact (by exact zb0 HB)); (case aF => exact (fun _ _ => trivial)); (case aO => exact ((Kd.R_nil _ _ _ _ (fun _ => True)))); (case aS => exact (below_size (by exact zb0 HB))); (case aL => have := LMc5.out; omega); intro v495 w15 ho hb hg hat; rw [← Ny494.out] at ho; have n0_ := Aside0.mk (blk_grown (zk0 BK491) hg (by simp [Value.ownBlock])); have n1_ := Aside0.mk (blk_grown (zk0 BK492) hg (by simp [Value.ownBlock])); have n2_ := Aside0.mk (hb); have n3_ := Aside0.mk (ho); clear BK491; clear BK492; clear HB; have BK491 := n0_; have BK492 := n1_; have HB := n2_; have HO496 := n3_; clear n0_ n1_ n2_ n3_; clear ho hb hg hat; obtain ⟨hcz16_0, hcz16_1, hcz16_2, hfz16_0, hfz16_1, hfz16_2⟩ := zq3 BK491; obtain ⟨hcz17_0, hcz17_1, hcz17_2, hcz17_3, hfz17_0, hfz17_1, hfz17_2, hfz17_3⟩ := zq4 BK492) | ((with_reducible refine gate_callee (f := 27) rfl ?_); refine goesL_ (some 27) rfl rfl Try.func27 (by kernel_rfl) rfl #[.agg #[.int .i64 a0_0, .int .i64 a0_1, .slice A0_2 l0_2.length c0_2], .agg #[.int .i64 a1_0, .int .i64 a1_1, .int .i64 a1_2, .int .i64 a1_3]] rfl (by (try simp only [List.map_toArray, List.map_cons, List.map_nil]); first | done | rfl | (simp only [List.length_drop, List.length_take]; rfl)) ?_; (with_reducible refine (raster_Crop.calls k a0_0 a0_1 _ _ l0_2 a1_0 a1_1 a1_2 a1_3 t497 t498 t499 t502 _ ?side1 ?side2 A6.out).mono ?_); (case side1 => repeat (first | exact (Kd.C_below HR0_2.out HB.out) | (with_reducible refine Kd.C_alloc ?_ _) | (with_reducible refine Kd.C_drewN ?_ _) | (with_reducible refine Kd.C_drew ?_))); (case side2 => exact HC0_2.out); rintro e w18 ⟨v500, rfl, ho0, hb⟩; refine ⟨_, rfl, ?_⟩; have n0_ := Aside0.mk (Kd.R_elder' (by exact zr0 HO496) (Kd.R_base ho0) hb); have n1_ := Aside0.mk (Kd.R_lower (Kd.R_new' ho0 (Kd.R_lt (by exact zr0 HO496))) (below_size (by exact zb0 HB))); replace BK491 := zk BK491 hb; replace BK492 := zk BK492 hb; replace HB := zb HB hb; clear HO496; have HO496 := n0_; have HO501 := n1_; clear n0_ n1_; (try clear hb); (try clear hb2); (try clear hk); (try clear hi); (try clear ho0)) | ((with_reducible refine gate_dst (N := 6) rfl ?_); refine box_event ?hg (N := 6) ?hd (cs := #[.int .i64 0, .int .i64 0, .slice none 0 0]) (t := 24) ?hr ?_; (case hd => rfl); (case hg => rfl); (case hr => first | (go_simp; done) | (go_simp; rfl)); intro gb503 hg w19 hbox hb; have GW503 := zg HB hg; have GE503 := zg HB hg; have NB491_503 := zn BK491 hg; have NB503_491 := zn' BK491 hg; have NB492_503 := zn BK492 hg; have NB503_492 := zn' BK492 hg; have n0_ := Aside0.mk (hbox); replace HO496 := zr HO496 hb; replace HO501 := zr HO501 hb; replace BK491 := zk BK491 hb; replace BK492 := zk BK492 hb; replace HB := zb HB hb; have BK503 := n0_; clear n0_; clear hb hbox hg; have hnb20 := NB503_491.out; have hnc20 := NB491_503.out; have hnb21 := NB503_492.out; have hnc21 := NB492_503.out; obtain ⟨hcz22_0, hcz22_1, hcz22_2, hfz22_0, hfz22_1, hfz22_2⟩ := zq3 BK503; obtain ⟨Ao23, co23, eo23⟩ := Kd.R_slice HO501.out; subst eo23; obtain ⟨hcz24_0, hcz24_1, hcz24_2, hfz24_0, hfz24_1, hfz24_2⟩ := zq3 BK491) | ((with_reducible refine gate_callee (f := 29) rfl ?_); refine goesL_ (some 34) rfl rfl Try.func29 (by kernel_rfl) rfl #[.agg #[.int .i64 a0_0, .int .i64 a0_1, .slice A0_2 l0_2.length c0_2], .agg #[.int .i64 a0_0, .int .i64 a0_1, .slice A0_2 l0_2.length c0_2], .agg #[.int .i64 0, .int .i64 0]] rfl (by (try simp only [List.map_toArray, List.map_cons, List.map_nil]); first | done | rfl | (simp only [List.length_drop, List.length_take]; rfl)) ?_; (with_reducible refine (raster_Put.calls k a0_0 a0_1 _ _ l0_2 a0_0 a0_1 _ _ l0_2 0 0 t504 t505 t506 t509 _ ?side1 ?side2 ?side3 ?side4 A7.out).mono ?_); (case side1 => exact Kd.C_below HR0_2.out (by exact zbo HB GE503)); (case side2 => exact HC0_2.out); (case side3 => exact Kd.C_below HR0_2.out (by exact zbo HB GE503)); (case side4 => exact HC0_2.out); rintro e w25 ⟨v507, rfl, ho0, hb⟩; refine ⟨_, rfl, ?_⟩; have n0_ := Aside0.mk (Kd.R_elder' (by exact zro HO496 BK503 (by decide)) (Kd.R_base ho0) hb); have n1_ := Aside0.mk (Kd.R_elder' (by exact zro HO501 BK503 (by decide)) (Kd.R_base ho0) hb); have n2_ := Aside0.mk (Kd.R_lower (Kd.R_new' (Kd.R_new' ho0 (Kd.R_lt (by exact zro HO496 BK503 (by decide)))) (Kd.R_lt (by exact zro HO501 BK503 (by decide)))) (below_size (by exact zbo HB GE503))); have n3_ := Aside0.mk (blk_below (g := gb503) (o := .cells #[.int .i64 t497, .int .i64 t498, .slice Ao23 t499.length co23] 24 (0, 0)) (by exact zp BK503 rfl) hb); have n4_ := Aside0.mk (below_step (by exact zbo HB GE503) hb); replace BK491 := zfk BK491 NB491_503 hb; replace BK492 := zfk BK492 NB492_503 hb; clear HO496; clear HO501; clear BK503; clear HB; have HO496 := n0_; have HO501 := n1_; have HO508 := n2_; have BK503 := n3_; have HB := n4_; clear n0_ n1_ n2_ n3_ n4_; (try clear hb); (try clear hb2); (try clear hk); (try clear hi); (try clear ho0)) | ((with_reducible refine gate_dst (N := 8) rfl ?_); refine box_event ?hg (N := 8) ?hd (cs := #[.int .i64 0, .int .i64 0, .slice none 0 0]) (t := 24) ?hr ?_; (case hd => rfl); (case hg => rfl); (case hr => first | (go_simp; done) | (go_simp; rfl)); intro gb510 hg w26 hbox hb; have GW510 := zg HB hg; have GE510 := zg HB hg; have NB491_510 := zn BK491 hg; have NB510_491 := zn' BK491 hg; have NB492_510 := zn BK492 hg; have NB510_492 := zn' BK492 hg; have NB503_510 := zn BK503 hg; have NB510_503 := zn' BK503 hg; have n0_ := Aside0.mk (hbox); replace HO496 := zr HO496 hb; replace HO501 := zr HO501 hb; replace HO508 := zr HO508 hb; replace BK491 := zk BK491 hb; replace BK492 := zk BK492 hb; replace BK503 := zk BK503 hb; replace HB := zb HB hb; have BK510 := n0_; clear n0_; clear hb hbox hg; have hnb27 := NB510_491.out; have hnc27 := NB491_510.out; have hnb28 := NB510_492.out; have hnc28 := NB492_510.out; have hnb29 := NB510_503.out; have hnc29 := NB503_510.out; obtain ⟨hcz30_0, hcz30_1, hcz30_2, hfz30_0, hfz30_1, hfz30_2⟩ := zq3 BK510; obtain ⟨Ao31, co31, eo31⟩ := Kd.R_slice HO508.out; subst eo31; obtain ⟨hcz32_0, hcz32_1, hcz32_2, hfz32_0, hfz32_1, hfz32_2⟩ := zq3 BK491) | ((with_reducible refine gate_callee (f := 31) rfl ?_); refine goesL_ (some 39) rfl rfl Try.func31 (by kernel_rfl) rfl #[.agg #[.int .i64 a0_0, .int .i64 a0_1, .slice A0_2 l0_2.length c0_2], .int .i64 2] rfl (by (try simp only [List.map_toArray, List.map_cons, List.map_nil]); first | done | rfl | (simp only [List.length_drop, List.length_take]; rfl)) ?_; (with_reducible refine (raster_Flip.calls k a0_0 a0_1 _ _ l0_2 2 t511 t512 t513 t516 _ ?side1 ?side2 A8.out).mono ?_); (case side1 => exact Kd.C_below HR0_2.out (by exact zbo HB GE510)); (case side2 => exact HC0_2.out); rintro e w33 ⟨v514, rfl, ho0, hb⟩; refine ⟨_, rfl, ?_⟩; have n0_ := Aside0.mk (Kd.R_elder' (by exact zro HO496 BK510 (by decide)) (Kd.R_base ho0) hb); have n1_ := Aside0.mk (Kd.R_elder' (by exact zro HO501 BK510 (by decide)) (Kd.R_base ho0) hb); have n2_ := Aside0.mk (Kd.R_elder' (by exact zro HO508 BK510 (by decide)) (Kd.R_base ho0) hb); have n3_ := Aside0.mk (Kd.R_lower (Kd.R_new' (Kd.R_new' (Kd.R_new' ho0 (Kd.R_lt (by exact zro HO496 BK510 (by decide)))) (Kd.R_lt (by exact zro HO501 BK510 (by decide)))) (Kd.R_lt (by exact zro HO508 BK510 (by decide)))) (below_size (by exact zbo HB GE510))); have n4_ := Aside0.mk (blk_below (g := gb510) (o := .cells #[.int .i64 t504, .int .i64 t505, .slice Ao31 t506.length co31] 24 (0, 0)) (by exact zp BK510 rfl) hb); have n5_ := Aside0.mk (below_step (by exact zbo HB GE510) hb); replace BK491 := zfk BK491 NB491_510 hb; replace BK492 := zfk BK492 NB492_510 hb; replace BK503 := zfk BK503 NB503_510 hb; clear HO496; clear HO501; clear HO508; clear BK510; clear HB; have HO496 := n0_; have HO501 := n1_; have HO508 := n2_; have HO515 := n3_; have BK510 := n4_; have HB := n5_; clear n0_ n1_ n2_ n3_ n4_ n5_; (try clear hb); (try clear hb2); (try clear hk); (try clear hi); (try clear ho0)) | ((with_reducible refine gate_dst (N := 10) rfl ?_); refine box_event ?hg (N := 10) ?hd (cs := #[.int .i64 0, .int .i64 0, .slice none 0 0]) (t := 24) ?hr ?_; (case hd => rfl); (case hg => rfl); (case hr => first | (go_simp; done) | (go_simp; rfl)); intro gb517 hg w34 hbox hb; have GW517 := zg HB hg; have GE517 := zg HB hg; have NB491_517 := zn BK491 hg; have NB517_491 := zn' BK491 hg; have NB492_517 := zn BK492 hg; have NB517_492 := zn' BK492 hg; have NB503_517 := zn BK503 hg; have NB517_503 := zn' BK503 hg; have NB510_517 := zn BK510 hg; have NB517_510 := zn' BK510 hg; have n0_ := Aside0.mk (hbox); replace HO496 := zr HO496 hb; replace HO501 := zr HO501 hb; replace HO508 := zr HO508 hb; replace HO515 := zr HO515 hb; replace BK491 := zk BK491 hb; replace BK492 := zk BK492 hb; replace BK503 := zk BK503 hb; replace BK510 := zk BK510 hb; replace HB := zb HB hb; have BK517 := n0_; clear n0_; clear hb hbox hg; have hnb35 := NB517_491.out; have hnc35 := NB491_517.out; have hnb36 := NB517_492.out; have hnc36 := NB492_517.out; have hnb37 := NB517_503.out; have hnc37 := NB503_517.out; have hnb38 := NB517_510.out; have hnc38 := NB510_517.out; obtain ⟨hcz39_0, hcz39_1, hcz39_2, hfz39_0, hfz39_1, hfz39_2⟩ := zq3 BK517; obtain ⟨Ao40, co40, eo40⟩ := Kd.R_slice HO515.out; subst eo40; obtain ⟨hcz41_0, hcz41_1, hcz41_2, hfz41_0, hfz41_1, hfz41_2⟩ := zq3 BK491; obtain ⟨hcz42_0, hcz42_1, hcz42_2, hcz42_3, hfz42_0, hfz42_1, hfz42_2, hfz42_3⟩ := zq4 BK492) | ((with_reducible refine gate_callee (f := 27) rfl ?_); refine goesL_ (some 45) rfl rfl Try.func27 (by kernel_rfl) rfl #[.agg #[.int .i64 a0_0, .int .i64 a0_1, .slice A0_2 l0_2.length c0_2], .agg #[.int .i64 a1_0, .int .i64 a1_1, .int .i64 a1_2, .int .i64 a1_3]] rfl (by (try simp only [List.map_toArray, List.map_cons, List.map_nil]); first | done | rfl | (simp only [List.length_drop, List.length_take]; rfl)) ?_; (with_reducible refine (raster_Crop.calls k a0_0 a0_1 _ _ l0_2 a1_0 a1_1 a1_2 a1_3 t518 t519 t520 t523 _ ?side1 ?side2 A9.out).mono ?_); (case side1 => exact Kd.C_below HR0_2.out (by exact zbo HB GE517)); (case side2 => exact HC0_2.out); rintro e w43 ⟨v521, rfl, ho0, hb⟩; refine ⟨_, rfl, ?_⟩; have n0_ := Aside0.mk (Kd.R_elder' (by exact zro HO496 BK517 (by decide)) (Kd.R_base ho0) hb); have n1_ := Aside0.mk (Kd.R_elder' (by exact zro HO501 BK517 (by decide)) (Kd.R_base ho0) hb); have n2_ := Aside0.mk (Kd.R_elder' (by exact zro HO508 BK517 (by decide)) (Kd.R_base ho0) hb); have n3_ := Aside0.mk (Kd.R_elder' (by exact zro HO515 BK517 (by decide)) (Kd.R_base ho0) hb); have n4_ := Aside0.mk (Kd.R_lower (Kd.R_new' (Kd.R_new' (Kd.R_new' (Kd.R_new' ho0 (Kd.R_lt (by exact zro HO496 BK517 (by decide)))) (Kd.R_lt (by exact zro HO501 BK517 (by decide)))) (Kd.R_lt (by exact zro HO508 BK517 (by decide)))) (Kd.R_lt (by exact zro HO515 BK517 (by decide)))) (below_size (by exact zbo HB GE517))); have n5_ := Aside0.mk (blk_below (g := gb517) (o := .cells #[.int .i64 t511, .int .i64 t512, .slice Ao40 t513.length co40] 24 (0, 0)) (by exact zp BK517 rfl) hb); have n6_ := Aside0.mk (below_step (by exact zbo HB GE517) hb); replace BK491 := zfk BK491 NB491_517 hb; replace BK492 := zfk BK492 NB492_517 hb; replace BK503 := zfk BK503 NB503_517 hb; replace BK510 := zfk BK510 NB510_517 hb; clear HO496; clear HO501; clear HO508; clear HO515; clear BK517; clear HB; have HO496 := n0_; have HO501 := n1_; have HO508 := n2_; have HO515 := n3_; have HO522 := n4_; have BK517 := n5_; have HB := n6_; clear n0_ n1_ n2_ n3_ n4_ n5_ n6_; (try clear hb); (try clear hb2); (try clear hk); (try clear hi); (try clear ho0)) | ((with_reducible refine gate_dst (N := 12) rfl ?_); refine box_event ?hg (N := 12) ?hd (cs := #[.int .i64 0, .int .i64 0, .slice none 0 0]) (t := 24) ?hr ?_; (case hd => rfl); (case hg => rfl); (case hr => first | (go_simp; done) | (go_simp; rfl)); intro gb524 hg w44 hbox hb; have GW524 := zg HB hg; have GE524 := zg HB hg; have NB491_524 := zn BK491 hg; have NB524_491 := zn' BK491 hg; have NB492_524 := zn BK492 hg; have NB524_492 := zn' BK492 hg; have NB503_524 := zn BK503 hg; have NB524_503 := zn' BK503 hg; have NB510_524 := zn BK510 hg; have NB524_510 := zn' BK510 hg; have NB517_524 := zn BK517 hg; have NB524_517 := zn' BK517 hg; have n0_ := Aside0.mk (hbox); replace HO496 := zr HO496 hb; replace HO501 := zr HO501 hb; replace HO508 := zr HO508 hb; replace HO515 := zr HO515 hb; replace HO522 := zr HO522 hb; replace BK491 := zk BK491 hb; replace BK492 := zk BK492 hb; replace BK503 := zk BK503 hb; replace BK510 := zk BK510 hb; replace BK517 := zk BK517 hb; replace HB := zb HB hb; have BK524 := n0_; clear n0_; clear hb hbox hg; have hnb45 := NB524_491.out; have hnc45 := NB491_524.out; have hnb46 := NB524_492.out; have hnc46 := NB492_524.out; have hnb47 := NB524_503.out; have hnc47 := NB503_524.out; have hnb48 := NB524_510.out; have hnc48 := NB510_524.out; have hnb49 := NB524_517.out; have hnc49 := NB517_524.out; obtain ⟨hcz50_0, hcz50_1, hcz50_2, hfz50_0, hfz50_1, hfz50_2⟩ := zq3 BK524; obtain ⟨Ao51, co51, eo51⟩ := Kd.R_slice HO522.out; subst eo51; obtain ⟨hcz52_0, hcz52_1, hcz52_2, hfz52_0, hfz52_1, hfz52_2⟩ := zq3 BK503))
   (try simp only [Act.put, sA, sB, sC])
   go_loopg [51] k (fun kq v51 w' => ∃ (x5_1 : List (S26)) (x51_1 : Int) (x504002_1 : List (S26)) (x511002_1 : List (S26)) (x518002_1 : List (S26)) (x525002_1 : List (S26)) (u504002 : Value) (u511002 : Value) (u518002 : Value) (u525002 : Value), v51 = .int .i64 x51_1 ∧ Aside0 (imageeditorlaw11_RasterOwn.l0 kq x5_1 (t499.length : Int) x51_1 a0_0 a0_1 l0_2 a1_0 a1_1 a1_2 a1_3 t497 t498 x504002_1 t504 t505 x511002_1 t511 t512 x518002_1 t518 t519 x525002_1 = some r) ∧ Aside0 (kq ≤ k) ∧ Aside0 (Kd.R k26 26 w' w.heap.size (fun k_ => some k_ ≠ (u504002 : Value).ownBlock ∧ some k_ ≠ (u511002 : Value).ownBlock ∧ some k_ ≠ (u518002 : Value).ownBlock ∧ some k_ ≠ (u525002 : Value).ownBlock) v495 x5_1) ∧ Aside0 (Kd.R k26 26 w' w.heap.size (fun k_ => some k_ ≠ (v495 : Value).ownBlock ∧ some k_ ≠ (u511002 : Value).ownBlock ∧ some k_ ≠ (u518002 : Value).ownBlock ∧ some k_ ≠ (u525002 : Value).ownBlock) u504002 x504002_1) ∧ Aside0 (Kd.R k26 26 w' w.heap.size (fun k_ => some k_ ≠ (v495 : Value).ownBlock ∧ some k_ ≠ (u504002 : Value).ownBlock ∧ some k_ ≠ (u518002 : Value).ownBlock ∧ some k_ ≠ (u525002 : Value).ownBlock) u511002 x511002_1) ∧ Aside0 (Kd.R k26 26 w' w.heap.size (fun k_ => some k_ ≠ (v495 : Value).ownBlock ∧ some k_ ≠ (u504002 : Value).ownBlock ∧ some k_ ≠ (u511002 : Value).ownBlock ∧ some k_ ≠ (u525002 : Value).ownBlock) u518002 x518002_1) ∧ Aside0 (Kd.R k26 26 w' w.heap.size (fun k_ => some k_ ≠ (v495 : Value).ownBlock ∧ some k_ ≠ (u504002 : Value).ownBlock ∧ some k_ ≠ (u511002 : Value).ownBlock ∧ some k_ ≠ (u518002 : Value).ownBlock) u525002 x525002_1) ∧ Aside0 (w'.heap[gb491]? = some (.cells #[.int .i64 a0_0, .int .i64 a0_1, (.slice A0_2 l0_2.length c0_2)] 24 (0, 0))) ∧ Aside0 (w'.heap[gb492]? = some (.cells #[.int .i64 a1_0, .int .i64 a1_1, .int .i64 a1_2, .int .i64 a1_3] 37 (0, 0))) ∧ Aside0 (w'.heap[gb503]? = some (.cells #[.int .i64 t497, .int .i64 t498, u504002] 24 (0, 0))) ∧ Aside0 (w'.heap[gb510]? = some (.cells #[.int .i64 t504, .int .i64 t505, u511002] 24 (0, 0))) ∧ Aside0 (w'.heap[gb517]? = some (.cells #[.int .i64 t511, .int .i64 t512, u518002] 24 (0, 0))) ∧ Aside0 (w'.heap[gb524]? = some (.cells #[.int .i64 t518, .int .i64 t519, u525002] 24 (0, 0))) ∧ Aside0 (Below w.heap.size w w'))
   case atStart => exact ⟨(y494), (0), (t499), (t506), (t513), (t520), (.slice Ao23 t499.length co23), (.slice Ao31 t506.length co31), (.slice Ao40 t513.length co40), (.slice Ao51 t520.length co51), (by first | rfl | (simp; done) | (simp [*]; done)), H', ⟨Nat.le_refl _⟩, ⟨by (with_reducible repeat (first | apply Kd.R_alloc | apply Kd.R_drewN | apply Kd.R_drew)); exact Kd.R_mono (Kd.R_far (p := ⟨gb524, 2, none⟩) (Kd.R_far (p := ⟨gb524, 1, none⟩) (Kd.R_far (p := ⟨gb524, 0, none⟩) (Kd.R_types HO496.out BK524.out (by decide)) (fun _ hk => hk.2) (.int .i64 t518)) (fun _ hk => hk.2) (.int .i64 t519)) (fun _ hk => hk.2) (.slice Ao51 t520.length co51)) (fun _ hk => ⟨hk.1.1.1.1.2, ⟨hk.1.1.1.2, ⟨hk.1.1.2, hk.1.2⟩⟩⟩)⟩, ⟨by (with_reducible repeat (first | apply Kd.R_alloc | apply Kd.R_drewN | apply Kd.R_drew)); exact Kd.R_mono (Kd.R_far (p := ⟨gb524, 2, none⟩) (Kd.R_far (p := ⟨gb524, 1, none⟩) (Kd.R_far (p := ⟨gb524, 0, none⟩) (Kd.R_types HO501.out BK524.out (by decide)) (fun _ hk => hk.2) (.int .i64 t518)) (fun _ hk => hk.2) (.int .i64 t519)) (fun _ hk => hk.2) (.slice Ao51 t520.length co51)) (fun _ hk => ⟨hk.1.1.1.1.2, ⟨hk.1.1.1.2, ⟨hk.1.1.2, hk.1.2⟩⟩⟩)⟩, ⟨by (with_reducible repeat (first | apply Kd.R_alloc | apply Kd.R_drewN | apply Kd.R_drew)); exact Kd.R_mono (Kd.R_far (p := ⟨gb524, 2, none⟩) (Kd.R_far (p := ⟨gb524, 1, none⟩) (Kd.R_far (p := ⟨gb524, 0, none⟩) (Kd.R_types HO508.out BK524.out (by decide)) (fun _ hk => hk.2) (.int .i64 t518)) (fun _ hk => hk.2) (.int .i64 t519)) (fun _ hk => hk.2) (.slice Ao51 t520.length co51)) (fun _ hk => ⟨hk.1.1.1.1.2, ⟨hk.1.1.1.2, ⟨hk.1.1.2, hk.1.2⟩⟩⟩)⟩, ⟨by (with_reducible repeat (first | apply Kd.R_alloc | apply Kd.R_drewN | apply Kd.R_drew)); exact Kd.R_mono (Kd.R_far (p := ⟨gb524, 2, none⟩) (Kd.R_far (p := ⟨gb524, 1, none⟩) (Kd.R_far (p := ⟨gb524, 0, none⟩) (Kd.R_types HO515.out BK524.out (by decide)) (fun _ hk => hk.2) (.int .i64 t518)) (fun _ hk => hk.2) (.int .i64 t519)) (fun _ hk => hk.2) (.slice Ao51 t520.length co51)) (fun _ hk => ⟨hk.1.1.1.1.2, ⟨hk.1.1.1.2, ⟨hk.1.1.2, hk.1.2⟩⟩⟩)⟩, ⟨by (with_reducible repeat (first | apply Kd.R_alloc | apply Kd.R_drewN | apply Kd.R_drew)); exact Kd.R_mono (Kd.R_far (p := ⟨gb524, 2, none⟩) (Kd.R_far (p := ⟨gb524, 1, none⟩) (Kd.R_far (p := ⟨gb524, 0, none⟩) (Kd.R_types HO522.out BK524.out (by decide)) (fun _ hk => hk.2) (.int .i64 t518)) (fun _ hk => hk.2) (.int .i64 t519)) (fun _ hk => hk.2) (.slice Ao51 t520.length co51)) (fun _ hk => ⟨hk.1.1.1.1.2, ⟨hk.1.1.1.2, ⟨hk.1.1.2, hk.1.2⟩⟩⟩)⟩, ⟨by exact zf BK491 NB491_524⟩, ⟨by exact zf BK492 NB492_524⟩, ⟨by exact zf BK503 NB503_524⟩, ⟨by exact zf BK510 NB510_524⟩, ⟨by exact zf BK517 NB517_524⟩, ⟨by exact zp BK524 rfl⟩, ⟨by exact zbo HB GE524⟩⟩
   case round =>
    clear H'
    try clear c1
    try clear c2
    try clear p2
    try clear c3
    try clear q3
    try clear c4
    try clear q4
    try clear c5
    try clear c13
    try clear c14
    try clear c17
    try clear c20
    try clear c21
    try clear c27
    try clear c28
    try clear c29
    try clear c31
    try clear c35
    try clear c36
    try clear c37
    try clear c38
    try clear c45
    try clear c46
    try clear c47
    try clear c48
    try clear c49
    try clear hcz14_0
    try clear hcz14_1
    try clear hcz14_2
    try clear hcz16_0
    try clear hcz16_1
    try clear hcz16_2
    try clear hcz17_0
    try clear hcz17_1
    try clear hcz17_2
    try clear hcz17_3
    try clear hcz22_0
    try clear hcz22_1
    try clear hcz22_2
    try clear hcz24_0
    try clear hcz24_1
    try clear hcz24_2
    try clear hcz30_0
    try clear hcz30_1
    try clear hcz30_2
    try clear hcz32_0
    try clear hcz32_1
    try clear hcz32_2
    try clear hcz39_0
    try clear hcz39_1
    try clear hcz39_2
    try clear hcz41_0
    try clear hcz41_1
    try clear hcz41_2
    try clear hcz42_0
    try clear hcz42_1
    try clear hcz42_2
    try clear hcz42_3
    try clear hcz50_0
    try clear hcz50_1
    try clear hcz50_2
    try clear hcz52_0
    try clear hcz52_1
    try clear hcz52_2
    try clear hfz14_0
    try clear hfz14_1
    try clear hfz14_2
    try clear hfz16_0
    try clear hfz16_1
    try clear hfz16_2
    try clear hfz17_0
    try clear hfz17_1
    try clear hfz17_2
    try clear hfz17_3
    try clear hfz22_0
    try clear hfz22_1
    try clear hfz22_2
    try clear hfz24_0
    try clear hfz24_1
    try clear hfz24_2
    try clear hfz30_0
    try clear hfz30_1
    try clear hfz30_2
    try clear hfz32_0
    try clear hfz32_1
    try clear hfz32_2
    try clear hfz39_0
    try clear hfz39_1
    try clear hfz39_2
    try clear hfz41_0
    try clear hfz41_1
    try clear hfz41_2
    try clear hfz42_0
    try clear hfz42_1
    try clear hfz42_2
    try clear hfz42_3
    try clear hfz50_0
    try clear hfz50_1
    try clear hfz50_2
    try clear hfz52_0
    try clear hfz52_1
    try clear hfz52_2
    obtain ⟨x5_1, x51_1, x504002_1, x511002_1, x518002_1, x525002_1, u504002, u511002, u518002, u525002, rfl, HA, HK1, HO_5, HO_504002, HO_511002, HO_518002, HO_525002, BK491, BK492, BK503, BK510, BK517, BK524, HB⟩ := hrel
    cases gk with
    | zero => exact absurd HA.out (by simp [imageeditorlaw11_RasterOwn.l0])
    | succ k1 =>
     have H := HA.out
     clear HA
     simp only [imageeditorlaw11_RasterOwn.l0] at H
     by_cases c53 : x51_1 < (t499.length : Int)
     ·rw [if_pos c53] at H
      have c53b0 : decide (x51_1 < (t499.length : Int)) = true := decide_eq_true c53
      clear c53
      by_cases c54 : 0 ≤ x51_1
      ·rw [if_pos c54] at H
       have c54b0 : decide (0 ≤ x51_1) = true := decide_eq_true c54
       clear c54
       by_cases c55 : x51_1 < (x504002_1.length : Int)
       ·rw [if_pos c55] at H
        have c55b0 : decide (x51_1 < (x504002_1.length : Int)) = true := decide_eq_true c55
        clear c55
        obtain ⟨y525, hy525⟩ : ∃ y_ : List (S26), y_ = (x504002_1.set (x51_1 : Int).toNat (⟨1, 2, 3, 4⟩ : S26)) := ⟨_, rfl⟩
        replace H : (imageeditorlaw11_RasterOwn.l0 k1 x5_1 (t499.length : Int) (wrap64 (x51_1 + 1)) a0_0 a0_1 l0_2 a1_0 a1_1 a1_2 a1_3 t497 t498 y525 t504 t505 x511002_1 t511 t512 x518002_1 t518 t519 x525002_1) = some r := by first | (rw [hy525]; with_reducible exact H) | (have H2_ := (Option.bind_some _ _).symm.trans H; rw [hy525]; with_reducible exact H2_) | (have H2_ := (Option.bind_some _ _).symm.trans H; with_reducible exact H2_) | with_reducible exact H | (rw [hy525]; exact H) | exact H
        have Ny525 := Aside0.mk hy525
        clear hy525
        as_aux_lemma =>
         have H' := Aside0.mk H
         clear H
         obtain ⟨hcz57_0, hcz57_1, hcz57_2, hfz57_0, hfz57_1, hfz57_2⟩ := zq3 BK503
         have p56 : 0 ≤ (x51_1 : Int) := of_decide_eq_true (by first | (with_reducible assumption) | assumption)
         have q56 : (x51_1 : Int) < ((x504002_1.length : Int) : Int) := of_decide_eq_true (by first | (with_reducible assumption) | assumption)
         obtain ⟨go56, co56, eo56, gb56, gl56, cl56, HG56⟩ := Kd.R_form HO_504002.out (by omega)
         (first | cases eo56 | (injection eo56 with ea_ en_ ec_; (first | subst ea_ | (injection ea_ with ea_; subst ea_)); subst ec_; clear en_))
         have GB56 := Aside0.mk gb56
         have GG56 := Aside0.mk HG56
         clear gb56 gl56 HG56
         obtain ⟨ce56, hcl56, hM56, hcc56, hfr56⟩ := Kd.R_elem HO_504002.out z26 (x51_1 : Int) p56 q56
         obtain rfl := k26_openM hM56
         have hx56_0 : wr.cell? ⟨go56, (x51_1 : Int).toNat * 4, none⟩ = some (.int .i64 ((rd_T26 x504002_1 x51_1).f0)) := hcc56 0 _ rfl
         have hx56_1 : wr.cell? ⟨go56, (x51_1 : Int).toNat * 4 + 1, none⟩ = some (.int .i64 ((rd_T26 x504002_1 x51_1).f1)) := hcc56 1 _ rfl
         have hx56_2 : wr.cell? ⟨go56, (x51_1 : Int).toNat * 4 + 2, none⟩ = some (.int .i64 ((rd_T26 x504002_1 x51_1).f2)) := hcc56 2 _ rfl
         have hx56_3 : wr.cell? ⟨go56, (x51_1 : Int).toNat * 4 + 3, none⟩ = some (.int .i64 ((rd_T26 x504002_1 x51_1).f3)) := hcc56 3 _ rfl
         have hf56_0 : wr.frozen? ⟨go56, (x51_1 : Int).toNat * 4, none⟩ = false := hfr56 0
         have hf56_1 : wr.frozen? ⟨go56, (x51_1 : Int).toNat * 4 + 1, none⟩ = false := hfr56 1
         have hf56_2 : wr.frozen? ⟨go56, (x51_1 : Int).toNat * 4 + 2, none⟩ = false := hfr56 2
         have hf56_3 : wr.frozen? ⟨go56, (x51_1 : Int).toNat * 4 + 3, none⟩ = false := hfr56 3
         clear hcl56 hcc56 hfr56 hM56
         replace p56 := eq_true p56
         replace q56 := eq_true q56
         have HX58 := Aside0.mk (show Kd.R k26 26 wr w.heap.size (fun k_ => some k_ ≠ (v495 : Value).ownBlock ∧ some k_ ≠ (u511002 : Value).ownBlock ∧ some k_ ≠ (u518002 : Value).ownBlock ∧ some k_ ≠ (u525002 : Value).ownBlock) (.slice (some ⟨go56, 0, none⟩) x504002_1.length co56) x504002_1 from (by exact zr0 HO_504002))
         obtain ⟨ce58, hcl58, hM58, hcc58, hfr58⟩ := Kd.R_elem HX58.out z26 (x51_1 : Int) (of_decide_eq_true (by first | (with_reducible assumption) | assumption)) (by have h_ : (x51_1 : Int) < ((x504002_1.length : Int) : Int) := of_decide_eq_true (by first | (with_reducible assumption) | assumption); first | exact h_ | (have e_ := (Kd.R_reads' HO_504002.out).1; omega) | simpa using h_)
         obtain rfl := k26_openM hM58
         have HP58 := Kd.R_seg HX58.out (x51_1 : Int) (of_decide_eq_true (by first | (with_reducible assumption) | assumption)) (by have h_ : (x51_1 : Int) < ((x504002_1.length : Int) : Int) := of_decide_eq_true (by first | (with_reducible assumption) | assumption); first | exact h_ | (have e_ := (Kd.R_reads' HO_504002.out).1; omega) | simpa using h_) (seg := [.int .i64 1, .int .i64 2, .int .i64 3, .int .i64 4]) (j := 0) hcl58 hcc58 (show 4 ≤ 4 from by decide) (x' := (⟨1, 2, 3, 4⟩ : S26)) (k26_mkM _ _ _ (⟨1, 2, 3, 4⟩ : S26) ) (fun _ hk => hk)
         have hx58_0 := hcc58 0 _ rfl
         (try simp only [show (k26).sz = 4 from rfl, Nat.mul_one, Nat.add_zero] at hx58_0)
         have hf58_0 := hfr58 0
         (try simp only [show (k26).sz = 4 from rfl, Nat.mul_one, Nat.add_zero] at hf58_0)
         have hx58_1 := hcc58 1 _ rfl
         (try simp only [show (k26).sz = 4 from rfl, Nat.mul_one, Nat.add_zero] at hx58_1)
         have hf58_1 := hfr58 1
         (try simp only [show (k26).sz = 4 from rfl, Nat.mul_one, Nat.add_zero] at hf58_1)
         have hx58_2 := hcc58 2 _ rfl
         (try simp only [show (k26).sz = 4 from rfl, Nat.mul_one, Nat.add_zero] at hx58_2)
         have hf58_2 := hfr58 2
         (try simp only [show (k26).sz = 4 from rfl, Nat.mul_one, Nat.add_zero] at hf58_2)
         have hx58_3 := hcc58 3 _ rfl
         (try simp only [show (k26).sz = 4 from rfl, Nat.mul_one, Nat.add_zero] at hx58_3)
         have hf58_3 := hfr58 3
         (try simp only [show (k26).sz = 4 from rfl, Nat.mul_one, Nat.add_zero] at hf58_3)
         clear hcl58 hcc58 hfr58 hM58
         go_wp2_with (first | ((with_reducible refine gate_store (t := 26) (p := 58) rfl ?_); refine store_event (t := 26) (p := 58) (v := ?vo_w59) (w1 := ((((wr.setCell ⟨go56, (x51_1 : Int).toNat * 4, none⟩ (.int .i64 1)).setCell ⟨go56, (x51_1 : Int).toNat * 4 + 1, none⟩ (.int .i64 2)).setCell ⟨go56, (x51_1 : Int).toNat * 4 + 2, none⟩ (.int .i64 3)).setCell ⟨go56, (x51_1 : Int).toNat * 4 + 3, none⟩ (.int .i64 4))) ?hg ?ho ?hn ?hr ?_; (case ho => rfl); (case hg => rfl); (case hn => rfl); (case hr => first | (go_simp; done) | (go_simp; rfl)); intro w59 hw; have hg : wr.grownBy w59 (some go56) := (by rw [hw]; exact HP58.2); have hp_ : Kd.R k26 26 w59 w.heap.size (fun k_ => some k_ ≠ (v495 : Value).ownBlock ∧ some k_ ≠ (u511002 : Value).ownBlock ∧ some k_ ≠ (u518002 : Value).ownBlock ∧ some k_ ≠ (u525002 : Value).ownBlock) (.slice (some ⟨go56, 0, none⟩) x504002_1.length co56) y525 := (by rw [hw, Ny525.out]; exact HP58.1); clear HP58; have n0_ := Aside0.mk (Kd.R_after (v := (.slice (some ⟨go56, 0, none⟩) x504002_1.length co56)) (v1 := (.slice (some ⟨go56, 0, none⟩) x504002_1.length co56)) (ok := (fun k_ => some k_ ≠ (u511002 : Value).ownBlock ∧ some k_ ≠ (u518002 : Value).ownBlock ∧ some k_ ≠ (u525002 : Value).ownBlock)) (by (with_reducible repeat (first | apply Kd.R_alloc | apply Kd.R_drewN | apply Kd.R_drew)); exact Kd.R_mono HO_5.out (fun _ hk => ⟨⟨hk.2.1, ⟨hk.2.2.1, hk.2.2.2⟩⟩, hk.1⟩)) hg (.inl rfl)); have n1_ := Aside0.mk (hp_); have n2_ := Aside0.mk (Kd.R_after (v := (.slice (some ⟨go56, 0, none⟩) x504002_1.length co56)) (v1 := (.slice (some ⟨go56, 0, none⟩) x504002_1.length co56)) (ok := (fun k_ => some k_ ≠ (v495 : Value).ownBlock ∧ some k_ ≠ (u518002 : Value).ownBlock ∧ some k_ ≠ (u525002 : Value).ownBlock)) (by (with_reducible repeat (first | apply Kd.R_alloc | apply Kd.R_drewN | apply Kd.R_drew)); exact Kd.R_mono HO_511002.out (fun _ hk => ⟨⟨hk.1, ⟨hk.2.2.1, hk.2.2.2⟩⟩, hk.2.1⟩)) hg (.inl rfl)); have n3_ := Aside0.mk (Kd.R_after (v := (.slice (some ⟨go56, 0, none⟩) x504002_1.length co56)) (v1 := (.slice (some ⟨go56, 0, none⟩) x504002_1.length co56)) (ok := (fun k_ => some k_ ≠ (v495 : Value).ownBlock ∧ some k_ ≠ (u511002 : Value).ownBlock ∧ some k_ ≠ (u525002 : Value).ownBlock)) (by (with_reducible repeat (first | apply Kd.R_alloc | apply Kd.R_drewN | apply Kd.R_drew)); exact Kd.R_mono HO_518002.out (fun _ hk => ⟨⟨hk.1, ⟨hk.2.2.1, hk.2.2.2⟩⟩, hk.2.1⟩)) hg (.inl rfl)); have n4_ := Aside0.mk (Kd.R_after (v := (.slice (some ⟨go56, 0, none⟩) x504002_1.length co56)) (v1 := (.slice (some ⟨go56, 0, none⟩) x504002_1.length co56)) (ok := (fun k_ => some k_ ≠ (v495 : Value).ownBlock ∧ some k_ ≠ (u511002 : Value).ownBlock ∧ some k_ ≠ (u518002 : Value).ownBlock)) (by (with_reducible repeat (first | apply Kd.R_alloc | apply Kd.R_drewN | apply Kd.R_drew)); exact Kd.R_mono HO_525002.out (fun _ hk => ⟨⟨hk.1, ⟨hk.2.2.1, hk.2.2.2⟩⟩, hk.2.1⟩)) hg (.inl rfl)); have n5_ := Aside0.mk (blk_grown (zk0 BK491) hg (Kd.R_ne HO_504002.out BK491.out (by decide))); have n6_ := Aside0.mk (blk_grown (zk0 BK492) hg (Kd.R_ne HO_504002.out BK492.out (by decide))); have n7_ := Aside0.mk (blk_grown (zk0 BK503) hg (Kd.R_ne HO_504002.out BK503.out (by decide))); have n8_ := Aside0.mk (blk_grown (zk0 BK510) hg (Kd.R_ne HO_504002.out BK510.out (by decide))); have n9_ := Aside0.mk (blk_grown (zk0 BK517) hg (Kd.R_ne HO_504002.out BK517.out (by decide))); have n10_ := Aside0.mk (blk_grown (zk0 BK524) hg (Kd.R_ne HO_504002.out BK524.out (by decide))); have n11_ := Aside0.mk ((by rw [hw]; exact below_set (below_set (below_set (below_set (HB.out) GB56.out) GB56.out) GB56.out) GB56.out : Below w.heap.size w w59)); clear HO_5; clear HO_504002; clear HO_511002; clear HO_518002; clear HO_525002; clear BK491; clear BK492; clear BK503; clear BK510; clear BK517; clear BK524; clear HB; have HO_5 := n0_; have HO_504002 := n1_; have HO_511002 := n2_; have HO_518002 := n3_; have HO_525002 := n4_; have BK491 := n5_; have BK492 := n6_; have BK503 := n7_; have BK510 := n8_; have BK517 := n9_; have BK524 := n10_; have HB := n11_; clear n0_ n1_ n2_ n3_ n4_ n5_ n6_ n7_ n8_ n9_ n10_ n11_; clear hg hw hp_))
         go_roundg k1
         case measure => have := HK1.out; omega
         case rel => exact ⟨(x5_1), (wrap64 (x51_1 + 1)), (y525), (x511002_1), (x518002_1), (x525002_1), (.slice (some ⟨go56, 0, none⟩) x504002_1.length co56), (u511002), (u518002), (u525002), (by first | rfl | (simp; done) | (simp [*]; done)), H', ⟨by have := HK1.out; omega⟩, ⟨by (with_reducible repeat (first | apply Kd.R_alloc | apply Kd.R_drewN | apply Kd.R_drew)); exact Kd.R_mono HO_5.out (fun _ hk => ⟨hk.2, ⟨hk.1.1, ⟨hk.1.2.1, hk.1.2.2⟩⟩⟩)⟩, ⟨by exact zr0 HO_504002⟩, ⟨by (with_reducible repeat (first | apply Kd.R_alloc | apply Kd.R_drewN | apply Kd.R_drew)); exact Kd.R_mono HO_511002.out (fun _ hk => ⟨hk.1.1, ⟨hk.2, ⟨hk.1.2.1, hk.1.2.2⟩⟩⟩)⟩, ⟨by (with_reducible repeat (first | apply Kd.R_alloc | apply Kd.R_drewN | apply Kd.R_drew)); exact Kd.R_mono HO_518002.out (fun _ hk => ⟨hk.1.1, ⟨hk.2, ⟨hk.1.2.1, hk.1.2.2⟩⟩⟩)⟩, ⟨by (with_reducible repeat (first | apply Kd.R_alloc | apply Kd.R_drewN | apply Kd.R_drew)); exact Kd.R_mono HO_525002.out (fun _ hk => ⟨hk.1.1, ⟨hk.2, ⟨hk.1.2.1, hk.1.2.2⟩⟩⟩)⟩, ⟨by exact zk0 BK491⟩, ⟨by exact zk0 BK492⟩, ⟨by exact zk0 BK503⟩, ⟨by exact zk0 BK510⟩, ⟨by exact zk0 BK517⟩, ⟨by exact zk0 BK524⟩, ⟨by exact zb0 HB⟩⟩
       ·rw [if_neg c55] at H
        exact absurd H (by simp)
      ·rw [if_neg c54] at H
       exact absurd H (by simp)
     ·rw [if_neg c53] at H
      have c53b0 : decide (x51_1 < (t499.length : Int)) = false := decide_eq_false c53
      clear c53
      have H' := Aside0.mk H
      clear H
      obtain ⟨hcz60_0, hcz60_1, hcz60_2, hfz60_0, hfz60_1, hfz60_2⟩ := zq3 BK510
      obtain ⟨Ao61, co61, eo61⟩ := Kd.R_slice HO_511002.out
      subst eo61
      go_wp2
      go_loopg [63] k1 (fun kq v63 w' => ∃ (x5_2 : List (S26)) (x63_2 : Int) (x504002_2 : List (S26)) (x511002_2 : List (S26)) (x518002_2 : List (S26)) (x525002_2 : List (S26)) (u504002 : Value) (u511002 : Value) (u518002 : Value) (u525002 : Value), v63 = .int .i64 x63_2 ∧ Aside0 (imageeditorlaw11_RasterOwn.l1 kq x5_2 (x511002_1.length : Int) x63_2 a0_0 a0_1 l0_2 a1_0 a1_1 a1_2 a1_3 t504 t505 x511002_2 t511 t512 x518002_2 t518 t519 x525002_2 = some r) ∧ Aside0 (kq ≤ k1) ∧ Aside0 (Kd.R k26 26 w' w.heap.size (fun k_ => some k_ ≠ (u504002 : Value).ownBlock ∧ some k_ ≠ (u511002 : Value).ownBlock ∧ some k_ ≠ (u518002 : Value).ownBlock ∧ some k_ ≠ (u525002 : Value).ownBlock) v495 x5_2) ∧ Aside0 (Kd.R k26 26 w' w.heap.size (fun k_ => some k_ ≠ (v495 : Value).ownBlock ∧ some k_ ≠ (u511002 : Value).ownBlock ∧ some k_ ≠ (u518002 : Value).ownBlock ∧ some k_ ≠ (u525002 : Value).ownBlock) u504002 x504002_2) ∧ Aside0 (Kd.R k26 26 w' w.heap.size (fun k_ => some k_ ≠ (v495 : Value).ownBlock ∧ some k_ ≠ (u504002 : Value).ownBlock ∧ some k_ ≠ (u518002 : Value).ownBlock ∧ some k_ ≠ (u525002 : Value).ownBlock) u511002 x511002_2) ∧ Aside0 (Kd.R k26 26 w' w.heap.size (fun k_ => some k_ ≠ (v495 : Value).ownBlock ∧ some k_ ≠ (u504002 : Value).ownBlock ∧ some k_ ≠ (u511002 : Value).ownBlock ∧ some k_ ≠ (u525002 : Value).ownBlock) u518002 x518002_2) ∧ Aside0 (Kd.R k26 26 w' w.heap.size (fun k_ => some k_ ≠ (v495 : Value).ownBlock ∧ some k_ ≠ (u504002 : Value).ownBlock ∧ some k_ ≠ (u511002 : Value).ownBlock ∧ some k_ ≠ (u518002 : Value).ownBlock) u525002 x525002_2) ∧ Aside0 (w'.heap[gb491]? = some (.cells #[.int .i64 a0_0, .int .i64 a0_1, (.slice A0_2 l0_2.length c0_2)] 24 (0, 0))) ∧ Aside0 (w'.heap[gb492]? = some (.cells #[.int .i64 a1_0, .int .i64 a1_1, .int .i64 a1_2, .int .i64 a1_3] 37 (0, 0))) ∧ Aside0 (w'.heap[gb503]? = some (.cells #[.int .i64 t497, .int .i64 t498, u504002] 24 (0, 0))) ∧ Aside0 (w'.heap[gb510]? = some (.cells #[.int .i64 t504, .int .i64 t505, u511002] 24 (0, 0))) ∧ Aside0 (w'.heap[gb517]? = some (.cells #[.int .i64 t511, .int .i64 t512, u518002] 24 (0, 0))) ∧ Aside0 (w'.heap[gb524]? = some (.cells #[.int .i64 t518, .int .i64 t519, u525002] 24 (0, 0))) ∧ Aside0 (Below w.heap.size w w'))
      case atStart => exact ⟨(x5_1), (0), (x504002_1), (x511002_1), (x518002_1), (x525002_1), (u504002), (.slice Ao61 x511002_1.length co61), (u518002), (u525002), (by first | rfl | (simp; done) | (simp [*]; done)), H', ⟨Nat.le_refl _⟩, ⟨by exact zr0 HO_5⟩, ⟨by exact zr0 HO_504002⟩, ⟨by exact zr0 HO_511002⟩, ⟨by exact zr0 HO_518002⟩, ⟨by exact zr0 HO_525002⟩, ⟨by exact zk0 BK491⟩, ⟨by exact zk0 BK492⟩, ⟨by exact zk0 BK503⟩, ⟨by exact zk0 BK510⟩, ⟨by exact zk0 BK517⟩, ⟨by exact zk0 BK524⟩, ⟨by exact zb0 HB⟩⟩
      case round =>
       clear H'
       try clear c1
       try clear c2
       try clear p2
       try clear c3
       try clear q3
       try clear c4
       try clear q4
       try clear c5
       try clear p5
       try clear q5
       try clear hx5
       try clear hf5
       try clear p6
       try clear c13
       try clear c14
       try clear c17
       try clear c20
       try clear c21
       try clear c27
       try clear c28
       try clear c29
       try clear c31
       try clear c35
       try clear c36
       try clear c37
       try clear c38
       try clear c45
       try clear c46
       try clear c47
       try clear c48
       try clear c49
       try clear c53
       try clear c53b0
       try clear c54
       try clear c54b0
       try clear c55
       try clear c55b0
       try clear c56
       try clear p56
       try clear q56
       try clear hx56
       try clear hf56
       try clear c58
       try clear hx58
       try clear hf58
       try clear hcz14_0
       try clear hcz14_1
       try clear hcz14_2
       try clear hcz16_0
       try clear hcz16_1
       try clear hcz16_2
       try clear hcz17_0
       try clear hcz17_1
       try clear hcz17_2
       try clear hcz17_3
       try clear hcz22_0
       try clear hcz22_1
       try clear hcz22_2
       try clear hcz24_0
       try clear hcz24_1
       try clear hcz24_2
       try clear hcz30_0
       try clear hcz30_1
       try clear hcz30_2
       try clear hcz32_0
       try clear hcz32_1
       try clear hcz32_2
       try clear hcz39_0
       try clear hcz39_1
       try clear hcz39_2
       try clear hcz41_0
       try clear hcz41_1
       try clear hcz41_2
       try clear hcz42_0
       try clear hcz42_1
       try clear hcz42_2
       try clear hcz42_3
       try clear hcz50_0
       try clear hcz50_1
       try clear hcz50_2
       try clear hcz52_0
       try clear hcz52_1
       try clear hcz52_2
       try clear hcz57_0
       try clear hcz57_1
       try clear hcz57_2
       try clear hcz60_0
       try clear hcz60_1
       try clear hcz60_2
       try clear hfz14_0
       try clear hfz14_1
       try clear hfz14_2
       try clear hfz16_0
       try clear hfz16_1
       try clear hfz16_2
       try clear hfz17_0
       try clear hfz17_1
       try clear hfz17_2
       try clear hfz17_3
       try clear hfz22_0
       try clear hfz22_1
       try clear hfz22_2
       try clear hfz24_0
       try clear hfz24_1
       try clear hfz24_2
       try clear hfz30_0
       try clear hfz30_1
       try clear hfz30_2
       try clear hfz32_0
       try clear hfz32_1
       try clear hfz32_2
       try clear hfz39_0
       try clear hfz39_1
       try clear hfz39_2
       try clear hfz41_0
       try clear hfz41_1
       try clear hfz41_2
       try clear hfz42_0
       try clear hfz42_1
       try clear hfz42_2
       try clear hfz42_3
       try clear hfz50_0
       try clear hfz50_1
       try clear hfz50_2
       try clear hfz52_0
       try clear hfz52_1
       try clear hfz52_2
       try clear hfz57_0
       try clear hfz57_1
       try clear hfz57_2
       try clear hfz60_0
       try clear hfz60_1
       try clear hfz60_2
       try clear hx56_0
       try clear hx56_1
       try clear hx56_2
       try clear hx56_3
       try clear hx58_0
       try clear hx58_1
       try clear hx58_2
       try clear hx58_3
       try clear p2
       try clear p56
       try clear q3
       try clear q4
       try clear q56
       obtain ⟨x5_2, x63_2, x504002_2, x511002_2, x518002_2, x525002_2, u504002, u511002, u518002, u525002, rfl, HA, HK2, HO_5, HO_504002, HO_511002, HO_518002, HO_525002, BK491, BK492, BK503, BK510, BK517, BK524, HB⟩ := hrel
       cases gk with
       | zero => exact absurd HA.out (by simp [imageeditorlaw11_RasterOwn.l1])
       | succ k2 =>
        have H := HA.out
        clear HA
        simp only [imageeditorlaw11_RasterOwn.l1] at H
        by_cases c62 : x63_2 < (x511002_1.length : Int)
        ·rw [if_pos c62] at H
         have c62b0 : decide (x63_2 < (x511002_1.length : Int)) = true := decide_eq_true c62
         clear c62
         by_cases c63 : 0 ≤ x63_2
         ·rw [if_pos c63] at H
          have c63b0 : decide (0 ≤ x63_2) = true := decide_eq_true c63
          clear c63
          by_cases c64 : x63_2 < (x511002_2.length : Int)
          ·rw [if_pos c64] at H
           have c64b0 : decide (x63_2 < (x511002_2.length : Int)) = true := decide_eq_true c64
           clear c64
           obtain ⟨y526, hy526⟩ : ∃ y_ : List (S26), y_ = (x511002_2.set (x63_2 : Int).toNat (⟨1, 2, 3, 4⟩ : S26)) := ⟨_, rfl⟩
           replace H : (imageeditorlaw11_RasterOwn.l1 k2 x5_2 (x511002_1.length : Int) (wrap64 (x63_2 + 1)) a0_0 a0_1 l0_2 a1_0 a1_1 a1_2 a1_3 t504 t505 y526 t511 t512 x518002_2 t518 t519 x525002_2) = some r := by first | (rw [hy526]; with_reducible exact H) | (have H2_ := (Option.bind_some _ _).symm.trans H; rw [hy526]; with_reducible exact H2_) | (have H2_ := (Option.bind_some _ _).symm.trans H; with_reducible exact H2_) | with_reducible exact H | (rw [hy526]; exact H) | exact H
           have Ny526 := Aside0.mk hy526
           clear hy526
           as_aux_lemma =>
            have H' := Aside0.mk H
            clear H
            obtain ⟨hcz66_0, hcz66_1, hcz66_2, hfz66_0, hfz66_1, hfz66_2⟩ := zq3 BK510
            have p65 : 0 ≤ (x63_2 : Int) := of_decide_eq_true (by first | (with_reducible assumption) | assumption)
            have q65 : (x63_2 : Int) < ((x511002_2.length : Int) : Int) := of_decide_eq_true (by first | (with_reducible assumption) | assumption)
            obtain ⟨go65, co65, eo65, gb65, gl65, cl65, HG65⟩ := Kd.R_form HO_511002.out (by omega)
            (first | cases eo65 | (injection eo65 with ea_ en_ ec_; (first | subst ea_ | (injection ea_ with ea_; subst ea_)); subst ec_; clear en_))
            have GB65 := Aside0.mk gb65
            have GG65 := Aside0.mk HG65
            clear gb65 gl65 HG65
            obtain ⟨ce65, hcl65, hM65, hcc65, hfr65⟩ := Kd.R_elem HO_511002.out z26 (x63_2 : Int) p65 q65
            obtain rfl := k26_openM hM65
            have hx65_0 : wr.cell? ⟨go65, (x63_2 : Int).toNat * 4, none⟩ = some (.int .i64 ((rd_T26 x511002_2 x63_2).f0)) := hcc65 0 _ rfl
            have hx65_1 : wr.cell? ⟨go65, (x63_2 : Int).toNat * 4 + 1, none⟩ = some (.int .i64 ((rd_T26 x511002_2 x63_2).f1)) := hcc65 1 _ rfl
            have hx65_2 : wr.cell? ⟨go65, (x63_2 : Int).toNat * 4 + 2, none⟩ = some (.int .i64 ((rd_T26 x511002_2 x63_2).f2)) := hcc65 2 _ rfl
            have hx65_3 : wr.cell? ⟨go65, (x63_2 : Int).toNat * 4 + 3, none⟩ = some (.int .i64 ((rd_T26 x511002_2 x63_2).f3)) := hcc65 3 _ rfl
            have hf65_0 : wr.frozen? ⟨go65, (x63_2 : Int).toNat * 4, none⟩ = false := hfr65 0
            have hf65_1 : wr.frozen? ⟨go65, (x63_2 : Int).toNat * 4 + 1, none⟩ = false := hfr65 1
            have hf65_2 : wr.frozen? ⟨go65, (x63_2 : Int).toNat * 4 + 2, none⟩ = false := hfr65 2
            have hf65_3 : wr.frozen? ⟨go65, (x63_2 : Int).toNat * 4 + 3, none⟩ = false := hfr65 3
            clear hcl65 hcc65 hfr65 hM65
            replace p65 := eq_true p65
            replace q65 := eq_true q65
            have HX67 := Aside0.mk (show Kd.R k26 26 wr w.heap.size (fun k_ => some k_ ≠ (v495 : Value).ownBlock ∧ some k_ ≠ (u504002 : Value).ownBlock ∧ some k_ ≠ (u518002 : Value).ownBlock ∧ some k_ ≠ (u525002 : Value).ownBlock) (.slice (some ⟨go65, 0, none⟩) x511002_2.length co65) x511002_2 from (by exact zr0 HO_511002))
            obtain ⟨ce67, hcl67, hM67, hcc67, hfr67⟩ := Kd.R_elem HX67.out z26 (x63_2 : Int) (of_decide_eq_true (by first | (with_reducible assumption) | assumption)) (by have h_ : (x63_2 : Int) < ((x511002_2.length : Int) : Int) := of_decide_eq_true (by first | (with_reducible assumption) | assumption); first | exact h_ | (have e_ := (Kd.R_reads' HO_511002.out).1; omega) | simpa using h_)
            obtain rfl := k26_openM hM67
            have HP67 := Kd.R_seg HX67.out (x63_2 : Int) (of_decide_eq_true (by first | (with_reducible assumption) | assumption)) (by have h_ : (x63_2 : Int) < ((x511002_2.length : Int) : Int) := of_decide_eq_true (by first | (with_reducible assumption) | assumption); first | exact h_ | (have e_ := (Kd.R_reads' HO_511002.out).1; omega) | simpa using h_) (seg := [.int .i64 1, .int .i64 2, .int .i64 3, .int .i64 4]) (j := 0) hcl67 hcc67 (show 4 ≤ 4 from by decide) (x' := (⟨1, 2, 3, 4⟩ : S26)) (k26_mkM _ _ _ (⟨1, 2, 3, 4⟩ : S26) ) (fun _ hk => hk)
            have hx67_0 := hcc67 0 _ rfl
            (try simp only [show (k26).sz = 4 from rfl, Nat.mul_one, Nat.add_zero] at hx67_0)
            have hf67_0 := hfr67 0
            (try simp only [show (k26).sz = 4 from rfl, Nat.mul_one, Nat.add_zero] at hf67_0)
            have hx67_1 := hcc67 1 _ rfl
            (try simp only [show (k26).sz = 4 from rfl, Nat.mul_one, Nat.add_zero] at hx67_1)
            have hf67_1 := hfr67 1
            (try simp only [show (k26).sz = 4 from rfl, Nat.mul_one, Nat.add_zero] at hf67_1)
            have hx67_2 := hcc67 2 _ rfl
            (try simp only [show (k26).sz = 4 from rfl, Nat.mul_one, Nat.add_zero] at hx67_2)
            have hf67_2 := hfr67 2
            (try simp only [show (k26).sz = 4 from rfl, Nat.mul_one, Nat.add_zero] at hf67_2)
            have hx67_3 := hcc67 3 _ rfl
            (try simp only [show (k26).sz = 4 from rfl, Nat.mul_one, Nat.add_zero] at hx67_3)
            have hf67_3 := hfr67 3
            (try simp only [show (k26).sz = 4 from rfl, Nat.mul_one, Nat.add_zero] at hf67_3)
            clear hcl67 hcc67 hfr67 hM67
            go_wp2_with (first | ((with_reducible refine gate_store (t := 26) (p := 70) rfl ?_); refine store_event (t := 26) (p := 70) (v := ?vo_w68) (w1 := ((((wr.setCell ⟨go65, (x63_2 : Int).toNat * 4, none⟩ (.int .i64 1)).setCell ⟨go65, (x63_2 : Int).toNat * 4 + 1, none⟩ (.int .i64 2)).setCell ⟨go65, (x63_2 : Int).toNat * 4 + 2, none⟩ (.int .i64 3)).setCell ⟨go65, (x63_2 : Int).toNat * 4 + 3, none⟩ (.int .i64 4))) ?hg ?ho ?hn ?hr ?_; (case ho => rfl); (case hg => rfl); (case hn => rfl); (case hr => first | (go_simp; done) | (go_simp; rfl)); intro w68 hw; have hg : wr.grownBy w68 (some go65) := (by rw [hw]; exact HP67.2); have hp_ : Kd.R k26 26 w68 w.heap.size (fun k_ => some k_ ≠ (v495 : Value).ownBlock ∧ some k_ ≠ (u504002 : Value).ownBlock ∧ some k_ ≠ (u518002 : Value).ownBlock ∧ some k_ ≠ (u525002 : Value).ownBlock) (.slice (some ⟨go65, 0, none⟩) x511002_2.length co65) y526 := (by rw [hw, Ny526.out]; exact HP67.1); clear HP67; have n0_ := Aside0.mk (Kd.R_after (v := (.slice (some ⟨go65, 0, none⟩) x511002_2.length co65)) (v1 := (.slice (some ⟨go65, 0, none⟩) x511002_2.length co65)) (ok := (fun k_ => some k_ ≠ (u504002 : Value).ownBlock ∧ some k_ ≠ (u518002 : Value).ownBlock ∧ some k_ ≠ (u525002 : Value).ownBlock)) (by (with_reducible repeat (first | apply Kd.R_alloc | apply Kd.R_drewN | apply Kd.R_drew)); exact Kd.R_mono HO_5.out (fun _ hk => ⟨⟨hk.1, ⟨hk.2.2.1, hk.2.2.2⟩⟩, hk.2.1⟩)) hg (.inl rfl)); have n1_ := Aside0.mk (Kd.R_after (v := (.slice (some ⟨go65, 0, none⟩) x511002_2.length co65)) (v1 := (.slice (some ⟨go65, 0, none⟩) x511002_2.length co65)) (ok := (fun k_ => some k_ ≠ (v495 : Value).ownBlock ∧ some k_ ≠ (u518002 : Value).ownBlock ∧ some k_ ≠ (u525002 : Value).ownBlock)) (by (with_reducible repeat (first | apply Kd.R_alloc | apply Kd.R_drewN | apply Kd.R_drew)); exact Kd.R_mono HO_504002.out (fun _ hk => ⟨⟨hk.1, ⟨hk.2.2.1, hk.2.2.2⟩⟩, hk.2.1⟩)) hg (.inl rfl)); have n2_ := Aside0.mk (hp_); have n3_ := Aside0.mk (Kd.R_after (v := (.slice (some ⟨go65, 0, none⟩) x511002_2.length co65)) (v1 := (.slice (some ⟨go65, 0, none⟩) x511002_2.length co65)) (ok := (fun k_ => some k_ ≠ (v495 : Value).ownBlock ∧ some k_ ≠ (u504002 : Value).ownBlock ∧ some k_ ≠ (u525002 : Value).ownBlock)) (by (with_reducible repeat (first | apply Kd.R_alloc | apply Kd.R_drewN | apply Kd.R_drew)); exact Kd.R_mono HO_518002.out (fun _ hk => ⟨⟨hk.1, ⟨hk.2.1, hk.2.2.2⟩⟩, hk.2.2.1⟩)) hg (.inl rfl)); have n4_ := Aside0.mk (Kd.R_after (v := (.slice (some ⟨go65, 0, none⟩) x511002_2.length co65)) (v1 := (.slice (some ⟨go65, 0, none⟩) x511002_2.length co65)) (ok := (fun k_ => some k_ ≠ (v495 : Value).ownBlock ∧ some k_ ≠ (u504002 : Value).ownBlock ∧ some k_ ≠ (u518002 : Value).ownBlock)) (by (with_reducible repeat (first | apply Kd.R_alloc | apply Kd.R_drewN | apply Kd.R_drew)); exact Kd.R_mono HO_525002.out (fun _ hk => ⟨⟨hk.1, ⟨hk.2.1, hk.2.2.2⟩⟩, hk.2.2.1⟩)) hg (.inl rfl)); have n5_ := Aside0.mk (blk_grown (zk0 BK491) hg (Kd.R_ne HO_511002.out BK491.out (by decide))); have n6_ := Aside0.mk (blk_grown (zk0 BK492) hg (Kd.R_ne HO_511002.out BK492.out (by decide))); have n7_ := Aside0.mk (blk_grown (zk0 BK503) hg (Kd.R_ne HO_511002.out BK503.out (by decide))); have n8_ := Aside0.mk (blk_grown (zk0 BK510) hg (Kd.R_ne HO_511002.out BK510.out (by decide))); have n9_ := Aside0.mk (blk_grown (zk0 BK517) hg (Kd.R_ne HO_511002.out BK517.out (by decide))); have n10_ := Aside0.mk (blk_grown (zk0 BK524) hg (Kd.R_ne HO_511002.out BK524.out (by decide))); have n11_ := Aside0.mk ((by rw [hw]; exact below_set (below_set (below_set (below_set (HB.out) GB65.out) GB65.out) GB65.out) GB65.out : Below w.heap.size w w68)); clear HO_5; clear HO_504002; clear HO_511002; clear HO_518002; clear HO_525002; clear BK491; clear BK492; clear BK503; clear BK510; clear BK517; clear BK524; clear HB; have HO_5 := n0_; have HO_504002 := n1_; have HO_511002 := n2_; have HO_518002 := n3_; have HO_525002 := n4_; have BK491 := n5_; have BK492 := n6_; have BK503 := n7_; have BK510 := n8_; have BK517 := n9_; have BK524 := n10_; have HB := n11_; clear n0_ n1_ n2_ n3_ n4_ n5_ n6_ n7_ n8_ n9_ n10_ n11_; clear hg hw hp_))
            go_roundg k2
            case measure => have := HK1.out; have := HK2.out; omega
            case rel => exact ⟨(x5_2), (wrap64 (x63_2 + 1)), (x504002_2), (y526), (x518002_2), (x525002_2), (u504002), (.slice (some ⟨go65, 0, none⟩) x511002_2.length co65), (u518002), (u525002), (by first | rfl | (simp; done) | (simp [*]; done)), H', ⟨by have := HK1.out; have := HK2.out; omega⟩, ⟨by (with_reducible repeat (first | apply Kd.R_alloc | apply Kd.R_drewN | apply Kd.R_drew)); exact Kd.R_mono HO_5.out (fun _ hk => ⟨hk.1.1, ⟨hk.2, ⟨hk.1.2.1, hk.1.2.2⟩⟩⟩)⟩, ⟨by (with_reducible repeat (first | apply Kd.R_alloc | apply Kd.R_drewN | apply Kd.R_drew)); exact Kd.R_mono HO_504002.out (fun _ hk => ⟨hk.1.1, ⟨hk.2, ⟨hk.1.2.1, hk.1.2.2⟩⟩⟩)⟩, ⟨by exact zr0 HO_511002⟩, ⟨by (with_reducible repeat (first | apply Kd.R_alloc | apply Kd.R_drewN | apply Kd.R_drew)); exact Kd.R_mono HO_518002.out (fun _ hk => ⟨hk.1.1, ⟨hk.1.2.1, ⟨hk.2, hk.1.2.2⟩⟩⟩)⟩, ⟨by (with_reducible repeat (first | apply Kd.R_alloc | apply Kd.R_drewN | apply Kd.R_drew)); exact Kd.R_mono HO_525002.out (fun _ hk => ⟨hk.1.1, ⟨hk.1.2.1, ⟨hk.2, hk.1.2.2⟩⟩⟩)⟩, ⟨by exact zk0 BK491⟩, ⟨by exact zk0 BK492⟩, ⟨by exact zk0 BK503⟩, ⟨by exact zk0 BK510⟩, ⟨by exact zk0 BK517⟩, ⟨by exact zk0 BK524⟩, ⟨by exact zb0 HB⟩⟩
          ·rw [if_neg c64] at H
           exact absurd H (by simp)
         ·rw [if_neg c63] at H
          exact absurd H (by simp)
        ·rw [if_neg c62] at H
         have c62b0 : decide (x63_2 < (x511002_1.length : Int)) = false := decide_eq_false c62
         clear c62
         have H' := Aside0.mk H
         clear H
         obtain ⟨hcz69_0, hcz69_1, hcz69_2, hfz69_0, hfz69_1, hfz69_2⟩ := zq3 BK517
         obtain ⟨Ao70, co70, eo70⟩ := Kd.R_slice HO_518002.out
         subst eo70
         go_wp2
         go_loopg [75] k2 (fun kq v75 w' => ∃ (x5_3 : List (S26)) (x75_3 : Int) (x504002_3 : List (S26)) (x511002_3 : List (S26)) (x518002_3 : List (S26)) (x525002_3 : List (S26)) (u504002 : Value) (u511002 : Value) (u518002 : Value) (u525002 : Value), v75 = .int .i64 x75_3 ∧ Aside0 (imageeditorlaw11_RasterOwn.l2 kq x5_3 (x518002_2.length : Int) x75_3 a0_0 a0_1 l0_2 a1_0 a1_1 a1_2 a1_3 t511 t512 x518002_3 t518 t519 x525002_3 = some r) ∧ Aside0 (kq ≤ k2) ∧ Aside0 (Kd.R k26 26 w' w.heap.size (fun k_ => some k_ ≠ (u504002 : Value).ownBlock ∧ some k_ ≠ (u511002 : Value).ownBlock ∧ some k_ ≠ (u518002 : Value).ownBlock ∧ some k_ ≠ (u525002 : Value).ownBlock) v495 x5_3) ∧ Aside0 (Kd.R k26 26 w' w.heap.size (fun k_ => some k_ ≠ (v495 : Value).ownBlock ∧ some k_ ≠ (u511002 : Value).ownBlock ∧ some k_ ≠ (u518002 : Value).ownBlock ∧ some k_ ≠ (u525002 : Value).ownBlock) u504002 x504002_3) ∧ Aside0 (Kd.R k26 26 w' w.heap.size (fun k_ => some k_ ≠ (v495 : Value).ownBlock ∧ some k_ ≠ (u504002 : Value).ownBlock ∧ some k_ ≠ (u518002 : Value).ownBlock ∧ some k_ ≠ (u525002 : Value).ownBlock) u511002 x511002_3) ∧ Aside0 (Kd.R k26 26 w' w.heap.size (fun k_ => some k_ ≠ (v495 : Value).ownBlock ∧ some k_ ≠ (u504002 : Value).ownBlock ∧ some k_ ≠ (u511002 : Value).ownBlock ∧ some k_ ≠ (u525002 : Value).ownBlock) u518002 x518002_3) ∧ Aside0 (Kd.R k26 26 w' w.heap.size (fun k_ => some k_ ≠ (v495 : Value).ownBlock ∧ some k_ ≠ (u504002 : Value).ownBlock ∧ some k_ ≠ (u511002 : Value).ownBlock ∧ some k_ ≠ (u518002 : Value).ownBlock) u525002 x525002_3) ∧ Aside0 (w'.heap[gb491]? = some (.cells #[.int .i64 a0_0, .int .i64 a0_1, (.slice A0_2 l0_2.length c0_2)] 24 (0, 0))) ∧ Aside0 (w'.heap[gb492]? = some (.cells #[.int .i64 a1_0, .int .i64 a1_1, .int .i64 a1_2, .int .i64 a1_3] 37 (0, 0))) ∧ Aside0 (w'.heap[gb503]? = some (.cells #[.int .i64 t497, .int .i64 t498, u504002] 24 (0, 0))) ∧ Aside0 (w'.heap[gb510]? = some (.cells #[.int .i64 t504, .int .i64 t505, u511002] 24 (0, 0))) ∧ Aside0 (w'.heap[gb517]? = some (.cells #[.int .i64 t511, .int .i64 t512, u518002] 24 (0, 0))) ∧ Aside0 (w'.heap[gb524]? = some (.cells #[.int .i64 t518, .int .i64 t519, u525002] 24 (0, 0))) ∧ Aside0 (Below w.heap.size w w'))
         case atStart => exact ⟨(x5_2), (0), (x504002_2), (x511002_2), (x518002_2), (x525002_2), (u504002), (u511002), (.slice Ao70 x518002_2.length co70), (u525002), (by first | rfl | (simp; done) | (simp [*]; done)), H', ⟨Nat.le_refl _⟩, ⟨by exact zr0 HO_5⟩, ⟨by exact zr0 HO_504002⟩, ⟨by exact zr0 HO_511002⟩, ⟨by exact zr0 HO_518002⟩, ⟨by exact zr0 HO_525002⟩, ⟨by exact zk0 BK491⟩, ⟨by exact zk0 BK492⟩, ⟨by exact zk0 BK503⟩, ⟨by exact zk0 BK510⟩, ⟨by exact zk0 BK517⟩, ⟨by exact zk0 BK524⟩, ⟨by exact zb0 HB⟩⟩
         case round =>
          clear H'
          try clear c1
          try clear c2
          try clear p2
          try clear c3
          try clear q3
          try clear c4
          try clear q4
          try clear c5
          try clear p5
          try clear q5
          try clear hx5
          try clear hf5
          try clear c6
          try clear p6
          try clear q6
          try clear hx6
          try clear hf6
          try clear c13
          try clear c14
          try clear c17
          try clear c20
          try clear c21
          try clear c27
          try clear c28
          try clear c29
          try clear c31
          try clear c35
          try clear c36
          try clear c37
          try clear c38
          try clear c45
          try clear c46
          try clear c47
          try clear c48
          try clear c49
          try clear c53
          try clear c53b0
          try clear c54
          try clear c54b0
          try clear c55
          try clear c55b0
          try clear c56
          try clear p56
          try clear q56
          try clear hx56
          try clear hf56
          try clear c58
          try clear hx58
          try clear hf58
          try clear c62
          try clear c62b0
          try clear c63
          try clear c63b0
          try clear c64
          try clear c64b0
          try clear p64
          try clear c65
          try clear p65
          try clear q65
          try clear hx65
          try clear hf65
          try clear c67
          try clear hx67
          try clear hf67
          try clear hcz14_0
          try clear hcz14_1
          try clear hcz14_2
          try clear hcz16_0
          try clear hcz16_1
          try clear hcz16_2
          try clear hcz17_0
          try clear hcz17_1
          try clear hcz17_2
          try clear hcz17_3
          try clear hcz22_0
          try clear hcz22_1
          try clear hcz22_2
          try clear hcz24_0
          try clear hcz24_1
          try clear hcz24_2
          try clear hcz30_0
          try clear hcz30_1
          try clear hcz30_2
          try clear hcz32_0
          try clear hcz32_1
          try clear hcz32_2
          try clear hcz39_0
          try clear hcz39_1
          try clear hcz39_2
          try clear hcz41_0
          try clear hcz41_1
          try clear hcz41_2
          try clear hcz42_0
          try clear hcz42_1
          try clear hcz42_2
          try clear hcz42_3
          try clear hcz50_0
          try clear hcz50_1
          try clear hcz50_2
          try clear hcz52_0
          try clear hcz52_1
          try clear hcz52_2
          try clear hcz57_0
          try clear hcz57_1
          try clear hcz57_2
          try clear hcz60_0
          try clear hcz60_1
          try clear hcz60_2
          try clear hcz66_0
          try clear hcz66_1
          try clear hcz66_2
          try clear hcz69_0
          try clear hcz69_1
          try clear hcz69_2
          try clear hfz14_0
          try clear hfz14_1
          try clear hfz14_2
          try clear hfz16_0
          try clear hfz16_1
          try clear hfz16_2
          try clear hfz17_0
          try clear hfz17_1
          try clear hfz17_2
          try clear hfz17_3
          try clear hfz22_0
          try clear hfz22_1
          try clear hfz22_2
          try clear hfz24_0
          try clear hfz24_1
          try clear hfz24_2
          try clear hfz30_0
          try clear hfz30_1
          try clear hfz30_2
          try clear hfz32_0
          try clear hfz32_1
          try clear hfz32_2
          try clear hfz39_0
          try clear hfz39_1
          try clear hfz39_2
          try clear hfz41_0
          try clear hfz41_1
          try clear hfz41_2
          try clear hfz42_0
          try clear hfz42_1
          try clear hfz42_2
          try clear hfz42_3
          try clear hfz50_0
          try clear hfz50_1
          try clear hfz50_2
          try clear hfz52_0
          try clear hfz52_1
          try clear hfz52_2
          try clear hfz57_0
          try clear hfz57_1
          try clear hfz57_2
          try clear hfz60_0
          try clear hfz60_1
          try clear hfz60_2
          try clear hfz66_0
          try clear hfz66_1
          try clear hfz66_2
          try clear hfz69_0
          try clear hfz69_1
          try clear hfz69_2
          try clear hx56_0
          try clear hx56_1
          try clear hx56_2
          try clear hx56_3
          try clear hx58_0
          try clear hx58_1
          try clear hx58_2
          try clear hx58_3
          try clear hx65_0
          try clear hx65_1
          try clear hx65_2
          try clear hx65_3
          try clear hx67_0
          try clear hx67_1
          try clear hx67_2
          try clear hx67_3
          try clear p2
          try clear p5
          try clear p56
          try clear p6
          try clear p65
          try clear q3
          try clear q4
          try clear q5
          try clear q56
          try clear q65
          obtain ⟨x5_3, x75_3, x504002_3, x511002_3, x518002_3, x525002_3, u504002, u511002, u518002, u525002, rfl, HA, HK3, HO_5, HO_504002, HO_511002, HO_518002, HO_525002, BK491, BK492, BK503, BK510, BK517, BK524, HB⟩ := hrel
          cases gk with
          | zero => exact absurd HA.out (by simp [imageeditorlaw11_RasterOwn.l2])
          | succ k3 =>
           have H := HA.out
           clear HA
           simp only [imageeditorlaw11_RasterOwn.l2] at H
           by_cases c71 : x75_3 < (x518002_2.length : Int)
           ·rw [if_pos c71] at H
            have c71b0 : decide (x75_3 < (x518002_2.length : Int)) = true := decide_eq_true c71
            clear c71
            by_cases c72 : 0 ≤ x75_3
            ·rw [if_pos c72] at H
             have c72b0 : decide (0 ≤ x75_3) = true := decide_eq_true c72
             clear c72
             by_cases c73 : x75_3 < (x518002_3.length : Int)
             ·rw [if_pos c73] at H
              have c73b0 : decide (x75_3 < (x518002_3.length : Int)) = true := decide_eq_true c73
              clear c73
              obtain ⟨y527, hy527⟩ : ∃ y_ : List (S26), y_ = (x518002_3.set (x75_3 : Int).toNat (⟨1, 2, 3, 4⟩ : S26)) := ⟨_, rfl⟩
              replace H : (imageeditorlaw11_RasterOwn.l2 k3 x5_3 (x518002_2.length : Int) (wrap64 (x75_3 + 1)) a0_0 a0_1 l0_2 a1_0 a1_1 a1_2 a1_3 t511 t512 y527 t518 t519 x525002_3) = some r := by first | (rw [hy527]; with_reducible exact H) | (have H2_ := (Option.bind_some _ _).symm.trans H; rw [hy527]; with_reducible exact H2_) | (have H2_ := (Option.bind_some _ _).symm.trans H; with_reducible exact H2_) | with_reducible exact H | (rw [hy527]; exact H) | exact H
              have Ny527 := Aside0.mk hy527
              clear hy527
              as_aux_lemma =>
               have H' := Aside0.mk H
               clear H
               obtain ⟨hcz75_0, hcz75_1, hcz75_2, hfz75_0, hfz75_1, hfz75_2⟩ := zq3 BK517
               have p74 : 0 ≤ (x75_3 : Int) := of_decide_eq_true (by first | (with_reducible assumption) | assumption)
               have q74 : (x75_3 : Int) < ((x518002_3.length : Int) : Int) := of_decide_eq_true (by first | (with_reducible assumption) | assumption)
               obtain ⟨go74, co74, eo74, gb74, gl74, cl74, HG74⟩ := Kd.R_form HO_518002.out (by omega)
               (first | cases eo74 | (injection eo74 with ea_ en_ ec_; (first | subst ea_ | (injection ea_ with ea_; subst ea_)); subst ec_; clear en_))
               have GB74 := Aside0.mk gb74
               have GG74 := Aside0.mk HG74
               clear gb74 gl74 HG74
               obtain ⟨ce74, hcl74, hM74, hcc74, hfr74⟩ := Kd.R_elem HO_518002.out z26 (x75_3 : Int) p74 q74
               obtain rfl := k26_openM hM74
               have hx74_0 : wr.cell? ⟨go74, (x75_3 : Int).toNat * 4, none⟩ = some (.int .i64 ((rd_T26 x518002_3 x75_3).f0)) := hcc74 0 _ rfl
               have hx74_1 : wr.cell? ⟨go74, (x75_3 : Int).toNat * 4 + 1, none⟩ = some (.int .i64 ((rd_T26 x518002_3 x75_3).f1)) := hcc74 1 _ rfl
               have hx74_2 : wr.cell? ⟨go74, (x75_3 : Int).toNat * 4 + 2, none⟩ = some (.int .i64 ((rd_T26 x518002_3 x75_3).f2)) := hcc74 2 _ rfl
               have hx74_3 : wr.cell? ⟨go74, (x75_3 : Int).toNat * 4 + 3, none⟩ = some (.int .i64 ((rd_T26 x518002_3 x75_3).f3)) := hcc74 3 _ rfl
               have hf74_0 : wr.frozen? ⟨go74, (x75_3 : Int).toNat * 4, none⟩ = false := hfr74 0
               have hf74_1 : wr.frozen? ⟨go74, (x75_3 : Int).toNat * 4 + 1, none⟩ = false := hfr74 1
               have hf74_2 : wr.frozen? ⟨go74, (x75_3 : Int).toNat * 4 + 2, none⟩ = false := hfr74 2
               have hf74_3 : wr.frozen? ⟨go74, (x75_3 : Int).toNat * 4 + 3, none⟩ = false := hfr74 3
               clear hcl74 hcc74 hfr74 hM74
               replace p74 := eq_true p74
               replace q74 := eq_true q74
               have HX76 := Aside0.mk (show Kd.R k26 26 wr w.heap.size (fun k_ => some k_ ≠ (v495 : Value).ownBlock ∧ some k_ ≠ (u504002 : Value).ownBlock ∧ some k_ ≠ (u511002 : Value).ownBlock ∧ some k_ ≠ (u525002 : Value).ownBlock) (.slice (some ⟨go74, 0, none⟩) x518002_3.length co74) x518002_3 from (by exact zr0 HO_518002))
               obtain ⟨ce76, hcl76, hM76, hcc76, hfr76⟩ := Kd.R_elem HX76.out z26 (x75_3 : Int) (of_decide_eq_true (by first | (with_reducible assumption) | assumption)) (by have h_ : (x75_3 : Int) < ((x518002_3.length : Int) : Int) := of_decide_eq_true (by first | (with_reducible assumption) | assumption); first | exact h_ | (have e_ := (Kd.R_reads' HO_518002.out).1; omega) | simpa using h_)
               obtain rfl := k26_openM hM76
               have HP76 := Kd.R_seg HX76.out (x75_3 : Int) (of_decide_eq_true (by first | (with_reducible assumption) | assumption)) (by have h_ : (x75_3 : Int) < ((x518002_3.length : Int) : Int) := of_decide_eq_true (by first | (with_reducible assumption) | assumption); first | exact h_ | (have e_ := (Kd.R_reads' HO_518002.out).1; omega) | simpa using h_) (seg := [.int .i64 1, .int .i64 2, .int .i64 3, .int .i64 4]) (j := 0) hcl76 hcc76 (show 4 ≤ 4 from by decide) (x' := (⟨1, 2, 3, 4⟩ : S26)) (k26_mkM _ _ _ (⟨1, 2, 3, 4⟩ : S26) ) (fun _ hk => hk)
               have hx76_0 := hcc76 0 _ rfl
               (try simp only [show (k26).sz = 4 from rfl, Nat.mul_one, Nat.add_zero] at hx76_0)
               have hf76_0 := hfr76 0
               (try simp only [show (k26).sz = 4 from rfl, Nat.mul_one, Nat.add_zero] at hf76_0)
               have hx76_1 := hcc76 1 _ rfl
               (try simp only [show (k26).sz = 4 from rfl, Nat.mul_one, Nat.add_zero] at hx76_1)
               have hf76_1 := hfr76 1
               (try simp only [show (k26).sz = 4 from rfl, Nat.mul_one, Nat.add_zero] at hf76_1)
               have hx76_2 := hcc76 2 _ rfl
               (try simp only [show (k26).sz = 4 from rfl, Nat.mul_one, Nat.add_zero] at hx76_2)
               have hf76_2 := hfr76 2
               (try simp only [show (k26).sz = 4 from rfl, Nat.mul_one, Nat.add_zero] at hf76_2)
               have hx76_3 := hcc76 3 _ rfl
               (try simp only [show (k26).sz = 4 from rfl, Nat.mul_one, Nat.add_zero] at hx76_3)
               have hf76_3 := hfr76 3
               (try simp only [show (k26).sz = 4 from rfl, Nat.mul_one, Nat.add_zero] at hf76_3)
               clear hcl76 hcc76 hfr76 hM76
               go_wp2_with (first | ((with_reducible refine gate_store (t := 26) (p := 82) rfl ?_); refine store_event (t := 26) (p := 82) (v := ?vo_w77) (w1 := ((((wr.setCell ⟨go74, (x75_3 : Int).toNat * 4, none⟩ (.int .i64 1)).setCell ⟨go74, (x75_3 : Int).toNat * 4 + 1, none⟩ (.int .i64 2)).setCell ⟨go74, (x75_3 : Int).toNat * 4 + 2, none⟩ (.int .i64 3)).setCell ⟨go74, (x75_3 : Int).toNat * 4 + 3, none⟩ (.int .i64 4))) ?hg ?ho ?hn ?hr ?_; (case ho => rfl); (case hg => rfl); (case hn => rfl); (case hr => first | (go_simp; done) | (go_simp; rfl)); intro w77 hw; have hg : wr.grownBy w77 (some go74) := (by rw [hw]; exact HP76.2); have hp_ : Kd.R k26 26 w77 w.heap.size (fun k_ => some k_ ≠ (v495 : Value).ownBlock ∧ some k_ ≠ (u504002 : Value).ownBlock ∧ some k_ ≠ (u511002 : Value).ownBlock ∧ some k_ ≠ (u525002 : Value).ownBlock) (.slice (some ⟨go74, 0, none⟩) x518002_3.length co74) y527 := (by rw [hw, Ny527.out]; exact HP76.1); clear HP76; have n0_ := Aside0.mk (Kd.R_after (v := (.slice (some ⟨go74, 0, none⟩) x518002_3.length co74)) (v1 := (.slice (some ⟨go74, 0, none⟩) x518002_3.length co74)) (ok := (fun k_ => some k_ ≠ (u504002 : Value).ownBlock ∧ some k_ ≠ (u511002 : Value).ownBlock ∧ some k_ ≠ (u525002 : Value).ownBlock)) (by (with_reducible repeat (first | apply Kd.R_alloc | apply Kd.R_drewN | apply Kd.R_drew)); exact Kd.R_mono HO_5.out (fun _ hk => ⟨⟨hk.1, ⟨hk.2.1, hk.2.2.2⟩⟩, hk.2.2.1⟩)) hg (.inl rfl)); have n1_ := Aside0.mk (Kd.R_after (v := (.slice (some ⟨go74, 0, none⟩) x518002_3.length co74)) (v1 := (.slice (some ⟨go74, 0, none⟩) x518002_3.length co74)) (ok := (fun k_ => some k_ ≠ (v495 : Value).ownBlock ∧ some k_ ≠ (u511002 : Value).ownBlock ∧ some k_ ≠ (u525002 : Value).ownBlock)) (by (with_reducible repeat (first | apply Kd.R_alloc | apply Kd.R_drewN | apply Kd.R_drew)); exact Kd.R_mono HO_504002.out (fun _ hk => ⟨⟨hk.1, ⟨hk.2.1, hk.2.2.2⟩⟩, hk.2.2.1⟩)) hg (.inl rfl)); have n2_ := Aside0.mk (Kd.R_after (v := (.slice (some ⟨go74, 0, none⟩) x518002_3.length co74)) (v1 := (.slice (some ⟨go74, 0, none⟩) x518002_3.length co74)) (ok := (fun k_ => some k_ ≠ (v495 : Value).ownBlock ∧ some k_ ≠ (u504002 : Value).ownBlock ∧ some k_ ≠ (u525002 : Value).ownBlock)) (by (with_reducible repeat (first | apply Kd.R_alloc | apply Kd.R_drewN | apply Kd.R_drew)); exact Kd.R_mono HO_511002.out (fun _ hk => ⟨⟨hk.1, ⟨hk.2.1, hk.2.2.2⟩⟩, hk.2.2.1⟩)) hg (.inl rfl)); have n3_ := Aside0.mk (hp_); have n4_ := Aside0.mk (Kd.R_after (v := (.slice (some ⟨go74, 0, none⟩) x518002_3.length co74)) (v1 := (.slice (some ⟨go74, 0, none⟩) x518002_3.length co74)) (ok := (fun k_ => some k_ ≠ (v495 : Value).ownBlock ∧ some k_ ≠ (u504002 : Value).ownBlock ∧ some k_ ≠ (u511002 : Value).ownBlock)) (by (with_reducible repeat (first | apply Kd.R_alloc | apply Kd.R_drewN | apply Kd.R_drew)); exact Kd.R_mono HO_525002.out (fun _ hk => ⟨⟨hk.1, ⟨hk.2.1, hk.2.2.1⟩⟩, hk.2.2.2⟩)) hg (.inl rfl)); have n5_ := Aside0.mk (blk_grown (zk0 BK491) hg (Kd.R_ne HO_518002.out BK491.out (by decide))); have n6_ := Aside0.mk (blk_grown (zk0 BK492) hg (Kd.R_ne HO_518002.out BK492.out (by decide))); have n7_ := Aside0.mk (blk_grown (zk0 BK503) hg (Kd.R_ne HO_518002.out BK503.out (by decide))); have n8_ := Aside0.mk (blk_grown (zk0 BK510) hg (Kd.R_ne HO_518002.out BK510.out (by decide))); have n9_ := Aside0.mk (blk_grown (zk0 BK517) hg (Kd.R_ne HO_518002.out BK517.out (by decide))); have n10_ := Aside0.mk (blk_grown (zk0 BK524) hg (Kd.R_ne HO_518002.out BK524.out (by decide))); have n11_ := Aside0.mk ((by rw [hw]; exact below_set (below_set (below_set (below_set (HB.out) GB74.out) GB74.out) GB74.out) GB74.out : Below w.heap.size w w77)); clear HO_5; clear HO_504002; clear HO_511002; clear HO_518002; clear HO_525002; clear BK491; clear BK492; clear BK503; clear BK510; clear BK517; clear BK524; clear HB; have HO_5 := n0_; have HO_504002 := n1_; have HO_511002 := n2_; have HO_518002 := n3_; have HO_525002 := n4_; have BK491 := n5_; have BK492 := n6_; have BK503 := n7_; have BK510 := n8_; have BK517 := n9_; have BK524 := n10_; have HB := n11_; clear n0_ n1_ n2_ n3_ n4_ n5_ n6_ n7_ n8_ n9_ n10_ n11_; clear hg hw hp_))
               go_roundg k3
               case measure => have := HK1.out; have := HK2.out; have := HK3.out; omega
               case rel => exact ⟨(x5_3), (wrap64 (x75_3 + 1)), (x504002_3), (x511002_3), (y527), (x525002_3), (u504002), (u511002), (.slice (some ⟨go74, 0, none⟩) x518002_3.length co74), (u525002), (by first | rfl | (simp; done) | (simp [*]; done)), H', ⟨by have := HK1.out; have := HK2.out; have := HK3.out; omega⟩, ⟨by (with_reducible repeat (first | apply Kd.R_alloc | apply Kd.R_drewN | apply Kd.R_drew)); exact Kd.R_mono HO_5.out (fun _ hk => ⟨hk.1.1, ⟨hk.1.2.1, ⟨hk.2, hk.1.2.2⟩⟩⟩)⟩, ⟨by (with_reducible repeat (first | apply Kd.R_alloc | apply Kd.R_drewN | apply Kd.R_drew)); exact Kd.R_mono HO_504002.out (fun _ hk => ⟨hk.1.1, ⟨hk.1.2.1, ⟨hk.2, hk.1.2.2⟩⟩⟩)⟩, ⟨by (with_reducible repeat (first | apply Kd.R_alloc | apply Kd.R_drewN | apply Kd.R_drew)); exact Kd.R_mono HO_511002.out (fun _ hk => ⟨hk.1.1, ⟨hk.1.2.1, ⟨hk.2, hk.1.2.2⟩⟩⟩)⟩, ⟨by exact zr0 HO_518002⟩, ⟨by (with_reducible repeat (first | apply Kd.R_alloc | apply Kd.R_drewN | apply Kd.R_drew)); exact Kd.R_mono HO_525002.out (fun _ hk => ⟨hk.1.1, ⟨hk.1.2.1, ⟨hk.1.2.2, hk.2⟩⟩⟩)⟩, ⟨by exact zk0 BK491⟩, ⟨by exact zk0 BK492⟩, ⟨by exact zk0 BK503⟩, ⟨by exact zk0 BK510⟩, ⟨by exact zk0 BK517⟩, ⟨by exact zk0 BK524⟩, ⟨by exact zb0 HB⟩⟩
             ·rw [if_neg c73] at H
              exact absurd H (by simp)
            ·rw [if_neg c72] at H
             exact absurd H (by simp)
           ·rw [if_neg c71] at H
            have c71b0 : decide (x75_3 < (x518002_2.length : Int)) = false := decide_eq_false c71
            clear c71
            replace H := Option.bind_eq_some_iff.mp H
            obtain ⟨⟨t528, t529, t530, t533⟩, A780, H⟩ := H
            replace H : ((imageeditorlaw11_same.f k3 a0_0 a0_1 x5_3 a0_0 a0_1 l0_2).bind fun t535 => (if t535 = true then ((imageeditorlaw11_same.f k3 t518 t519 x525002_3 t528 t529 t530).bind fun t536 => (some t536)) else (some false))) = some r := H
            have A78 := Aside0.mk A780
            clear A780
            replace H := Option.bind_eq_some_iff.mp H
            obtain ⟨t535, A790, H⟩ := H
            replace H : (if t535 = true then ((imageeditorlaw11_same.f k3 t518 t519 x525002_3 t528 t529 t530).bind fun t536 => (some t536)) else (some false)) = some r := H
            have A79 := Aside0.mk A790
            clear A790
            by_cases c80 : t535 = true
            ·subst c80
             have H1 : ((imageeditorlaw11_same.f k3 t518 t519 x525002_3 t528 t529 t530).bind fun t536 => (some t536)) = some r := by rw [if_pos rfl] at H; exact H
             clear H
             have H := H1
             clear H1
             replace H := Option.bind_eq_some_iff.mp H
             obtain ⟨t536, A810, H⟩ := H
             replace H : (some t536) = some r := H
             have A81 := Aside0.mk A810
             clear A810
             as_aux_lemma =>
              obtain rfl := Option.some.inj H
              have hnb82 := NB491_492.out
              have hnc82 := NB492_491.out
              have hnb83 := NB491_503.out
              have hnc83 := NB503_491.out
              have hnb84 := NB491_510.out
              have hnc84 := NB510_491.out
              have hnb85 := NB491_517.out
              have hnc85 := NB517_491.out
              have hnb86 := NB491_524.out
              have hnc86 := NB524_491.out
              obtain ⟨hcz87_0, hcz87_1, hcz87_2, hfz87_0, hfz87_1, hfz87_2⟩ := zq3 BK491
              obtain ⟨Ao88, co88, eo88⟩ := Kd.R_slice HO_5.out
              subst eo88
              have hnb89 := NB492_503.out
              have hnc89 := NB503_492.out
              have hnb90 := NB492_510.out
              have hnc90 := NB510_492.out
              have hnb91 := NB492_517.out
              have hnc91 := NB517_492.out
              have hnb92 := NB492_524.out
              have hnc92 := NB524_492.out
              obtain ⟨hcz93_0, hcz93_1, hcz93_2, hcz93_3, hfz93_0, hfz93_1, hfz93_2, hfz93_3⟩ := zq4 BK492
              have n_ := Aside0.mk (Kd.R_mono (ok' := fun k_ => some k_ ≠ (u525002 : Value).ownBlock) HO_5.out (fun k_ hk_ => hk_.2.2.2))
              clear HO_5
              have HO_5 := n_
              clear n_
              (try clear HO_504002)
              (try clear HO_511002)
              (try clear HO_518002)
              have n_ := Aside0.mk (Kd.R_mono (ok' := fun k_ => some k_ ≠ (.slice Ao88 x5_3.length co88 : Value).ownBlock) HO_525002.out (fun k_ hk_ => hk_.1))
              clear HO_525002
              have HO_525002 := n_
              clear n_
              (try clear BK492)
              (try clear BK503)
              (try clear BK510)
              (try clear BK517)
              go_wp2_with (first | ((with_reducible refine gate_callee (f := 27) rfl ?_); refine goesL_ (some 92) rfl rfl Try.func27 (by kernel_rfl) rfl #[.agg #[.int .i64 a0_0, .int .i64 a0_1, .slice Ao88 x5_3.length co88], .agg #[.int .i64 a1_0, .int .i64 a1_1, .int .i64 a1_2, .int .i64 a1_3]] rfl (by (try simp only [List.map_toArray, List.map_cons, List.map_nil]); first | done | rfl | (simp only [List.length_drop, List.length_take]; rfl)) ?_; (with_reducible refine (raster_Crop.calls k3 a0_0 a0_1 _ _ x5_3 a1_0 a1_1 a1_2 a1_3 t528 t529 t530 t533 _ ?side1 ?side2 A78.out).mono ?_); (case side1 => repeat (first | exact (Kd.R_reads' HO_5.out).2.2 | (with_reducible refine Kd.C_alloc ?_ _) | (with_reducible refine Kd.C_drewN ?_ _) | (with_reducible refine Kd.C_drew ?_))); (case side2 => exact (Kd.R_reads' HO_5.out).2.1); rintro e w94 ⟨v531, rfl, ho0, hb⟩; refine ⟨_, rfl, ?_⟩; have n0_ := Aside0.mk (Kd.R_elder' (by exact zr0 HO_5) (Kd.R_base ho0) hb); have n1_ := Aside0.mk (Kd.R_elder' (by exact zr0 HO_525002) (Kd.R_base ho0) hb); have n2_ := Aside0.mk (Kd.R_lower (Kd.R_new' (Kd.R_new' ho0 (Kd.R_lt (by exact zr0 HO_5))) (Kd.R_lt (by exact zr0 HO_525002))) (below_size (by exact zb0 HB))); replace BK491 := zk BK491 hb; replace BK524 := zk BK524 hb; replace HB := zb HB hb; clear HO_5; clear HO_525002; have HO_5 := n0_; have HO_525002 := n1_; have HO532 := n2_; clear n0_ n1_ n2_; (try clear hb); (try clear hb2); (try clear hk); (try clear hi); (try clear ho0)) | ((with_reducible refine gate_dst (N := 17) rfl ?_); refine box_event ?hg (N := 17) ?hd (cs := #[.int .i64 0, .int .i64 0, .slice none 0 0]) (t := 24) ?hr ?_; (case hd => rfl); (case hg => rfl); (case hr => first | (go_simp; done) | (go_simp; rfl)); intro gb534 hg w95 hbox hb; have GW534 := zg HB hg; have GE534 := zg HB hg; have NB491_534 := zn BK491 hg; have NB534_491 := zn' BK491 hg; have NB524_534 := zn BK524 hg; have NB534_524 := zn' BK524 hg; have n0_ := Aside0.mk (hbox); replace HO_5 := zr HO_5 hb; replace HO_525002 := zr HO_525002 hb; replace HO532 := zr HO532 hb; replace BK491 := zk BK491 hb; replace BK524 := zk BK524 hb; replace HB := zb HB hb; have BK534 := n0_; clear n0_; clear hb hbox hg; have hnb96 := NB534_491.out; have hnc96 := NB491_534.out; have hnb97 := NB534_524.out; have hnc97 := NB524_534.out; obtain ⟨hcz98_0, hcz98_1, hcz98_2, hfz98_0, hfz98_1, hfz98_2⟩ := zq3 BK534; obtain ⟨Ao99, co99, eo99⟩ := Kd.R_slice HO532.out; subst eo99; obtain ⟨hcz100_0, hcz100_1, hcz100_2, hfz100_0, hfz100_1, hfz100_2⟩ := zq3 BK491) | ((with_reducible refine gate_callee (f := 20) rfl ?_); refine goesL_ (some 102) rfl rfl Try.func20 (by kernel_rfl) rfl #[.agg #[.int .i64 a0_0, .int .i64 a0_1, .slice Ao88 x5_3.length co88], .agg #[.int .i64 a0_0, .int .i64 a0_1, .slice A0_2 l0_2.length c0_2]] rfl (by (try simp only [List.map_toArray, List.map_cons, List.map_nil]); first | done | rfl | (simp only [List.length_drop, List.length_take]; rfl)) ?_; (with_reducible refine (imageeditorlaw11_same.calls k3 a0_0 a0_1 _ _ x5_3 a0_0 a0_1 _ _ l0_2 true _ ?side1 ?side2 ?side3 ?side4 A79.out).mono ?_); (case side1 => refine (Kd.R_reads' (e := 26) (base := w.heap.size) (ok := fun k_ => (some k_ ≠ (u525002 : Value).ownBlock ∧ some k_ ≠ (.slice Ao99 t530.length co99 : Value).ownBlock)) (n := x5_3.length) (c := co88) ?_).2.2; exact (by exact zro HO_5 BK534 (by decide))); (case side2 => exact (Kd.R_reads' HO_5.out).2.1); (case side3 => exact Kd.C_below HR0_2.out (by exact zbo HB GE534)); (case side4 => exact HC0_2.out); rintro e w101 ⟨rfl, hb⟩; refine ⟨_, rfl, ?_⟩; have n0_ := Aside0.mk (Kd.R_below (by exact zro HO_5 BK534 (by decide)) hb); have n1_ := Aside0.mk (Kd.R_below (by exact zro HO_525002 BK534 (by decide)) hb); have n2_ := Aside0.mk (Kd.R_below (by exact zro HO532 BK534 (by decide)) hb); have n3_ := Aside0.mk (blk_below (g := gb534) (o := .cells #[.int .i64 t528, .int .i64 t529, .slice Ao99 t530.length co99] 24 (0, 0)) (by exact zp BK534 rfl) hb); have n4_ := Aside0.mk (below_step (by exact zbo HB GE534) hb); replace BK491 := zfk BK491 NB491_534 hb; replace BK524 := zfk BK524 NB524_534 hb; clear HO_5; clear HO_525002; clear HO532; clear BK534; clear HB; have HO_5 := n0_; have HO_525002 := n1_; have HO532 := n2_; have BK534 := n3_; have HB := n4_; clear n0_ n1_ n2_ n3_ n4_; (try clear hb); (try clear hb2); (try clear hk); (try clear hi); obtain ⟨hcz102_0, hcz102_1, hcz102_2, hfz102_0, hfz102_1, hfz102_2⟩ := zq3 BK524; obtain ⟨hcz103_0, hcz103_1, hcz103_2, hfz103_0, hfz103_1, hfz103_2⟩ := zq3 BK534; (try clear HO_5); have n_ := Aside0.mk (Kd.R_mono (ok' := fun k_ => some k_ ≠ (.slice Ao99 t530.length co99 : Value).ownBlock) HO_525002.out (fun k_ hk_ => hk_.2)); clear HO_525002; have HO_525002 := n_; clear n_; (try clear BK491); (try clear BK524); have n_ := Aside0.mk (Kd.R_mono (ok' := fun k_ => some k_ ≠ (u525002 : Value).ownBlock) HO532.out (fun k_ hk_ => hk_.2)); clear HO532; have HO532 := n_; clear n_; (try clear BK534); obtain ⟨Ao104, co104, eo104⟩ := Kd.R_slice HO_525002.out; subst eo104) | (go_at_call 20; (with_reducible refine (imageeditorlaw11_same.calls k3 t518 t519 _ _ x525002_3 t528 t529 _ _ t530 t536 _ ?side1 ?side2 ?side3 ?side4 A81.out).mono ?_); (case side1 => repeat (first | exact (Kd.R_reads' HO_525002.out).2.2 | (with_reducible refine Kd.C_alloc ?_ _) | (with_reducible refine Kd.C_drewN ?_ _) | (with_reducible refine Kd.C_drew ?_))); (case side2 => exact (Kd.R_reads' HO_525002.out).2.1); (case side3 => repeat (first | exact (Kd.R_reads' HO532.out).2.2 | (with_reducible refine Kd.C_alloc ?_ _) | (with_reducible refine Kd.C_drewN ?_ _) | (with_reducible refine Kd.C_drew ?_))); (case side4 => exact (Kd.R_reads' HO532.out).2.1); rintro e w105 ⟨rfl, hb⟩; replace HO_525002 := zr HO_525002 hb; replace HO532 := zr HO532 hb; replace HB := zb HB hb; (try clear hb); (try clear hb2); (try clear hk); (try clear hi)))
              go_ret
              exact ⟨by first | rfl | (simp [errW_none, errW_some] <;> rfl) | (simp [*, errW_none, errW_some] <;> rfl), by exact zb0 HB⟩
            ·replace c80 := Bool.eq_false_iff.mpr c80
             subst c80
             have H1 : (some false) = some r := by rw [if_neg (show ¬ (false = true) by decide)] at H; exact H
             clear H
             have H := H1
             clear H1
             as_aux_lemma =>
              exact absurd HT.out (by rw [← Option.some.inj H]; decide)
  ·rw [if_neg c5] at H
   exact absurd H (by simp)
 ·replace c4 := Bool.eq_false_iff.mpr c4
  subst c4
  have H1 : (some false) = some r := by rw [if_neg (show ¬ (false = true) by decide)] at H; exact H
  clear H
  have H := H1
  clear H1
  as_aux_lemma =>
   exact absurd HT.out (by rw [← Option.some.inj H]; decide)

end Go.Proofs.Ytjepbimgddgijaa.G
