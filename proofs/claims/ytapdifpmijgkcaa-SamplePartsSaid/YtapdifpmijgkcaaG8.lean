/- Contracts of functions of the program, each as it is called: what it computes (.f), that it computes no less with more rounds (.mono), and that a call returns just that (.calls). No conditions but those that each contract names. Written by a program of this session (wip/gx.py over the kit's print). -/
import Derived.Test.YtapdifpmijgkcaaG0
import Derived.Test.YtapdifpmijgkcaaG1
import Derived.Test.YtapdifpmijgkcaaG3
import Derived.Test.YtapdifpmijgkcaaG4
import Derived.Test.YtapdifpmijgkcaaG7
namespace Go.Proofs.Ytapdifpmijgkcaa.G
open Go.RowKit Go.Proofs.YtapdifpmijgkcaaW.PrintWords Go.Proofs.YtapdifpmijgkcaaW.PrintLast Go.Proofs.YtapdifpmijgkcaaW.PrintMore
attribute [local go_sem] max2_int min2_int max_two min_two max_three min_three max_four min_four   -- for this text's walks alone
set_option linter.unusedVariables false
set_option linter.unusedSimpArgs false


/-! ### sample_Draw: function 9 -/
mutual
def sample_Draw.j0 : Nat → Int → Bool → Int → Int → List (S37) → Int → Int → Int → Int → Int → Int → Int → Int → Int → Int → Option (Int × Int × (List (S37)) × Int)
 | 0, _, _, _, _, _, _, _, _, _, _, _, _, _, _, _ => none
 | k + 1, x2, x35, L4, L5, L6, E2H, E2I, E2J, E2K, E2L, E2M, G6, G7, G3, G4 => if x35 = true then (some (0, 0, ([] : List (S37)), 15)) else ((kernel_Valid.f x2).bind fun t253 => (if t253 = true then ((affine_Inverse.f k E2H E2I E2J E2K E2L E2M).bind fun G2 => (if G2.2.2.2.2.2.2 = 0 then ((rect_Empty.f G6 G7 G3 G4).bind fun t262 => (sample_Draw.j1 k x2 G2.2.2.2.2.2.2 t262 L4 L5 L6 G6 G7 G3 G4 G2.1 G2.2.1 G2.2.2.1 G2.2.2.2.1 G2.2.2.2.2.1 G2.2.2.2.2.2.1)) else (sample_Draw.j1 k x2 G2.2.2.2.2.2.2 true L4 L5 L6 G6 G7 G3 G4 G2.1 G2.2.1 G2.2.2.1 G2.2.2.2.1 G2.2.2.2.2.1 G2.2.2.2.2.2.1))) else (some (0, 0, ([] : List (S37)), 8))))
def sample_Draw.j1 : Nat → Int → Int → Bool → Int → Int → List (S37) → Int → Int → Int → Int → Int → Int → Int → Int → Int → Int → Option (Int × Int × (List (S37)) × Int)
 | 0, _, _, _, _, _, _, _, _, _, _, _, _, _, _, _, _ => none
 | k + 1, x2, x12, x51, L4, L5, L6, G6, G7, G3, G4, Y0, Y1, Y2, Y3, Y4, Y5 => if x51 = true then (some (0, 0, ([] : List (S37)), x12)) else (sample_Draw.l0 k x2 G4 0 G6 G7 G3 G4 Y0 Y1 Y2 Y3 Y4 Y5 L4 L5 L6 false G3 G4 ([] : List (S37)))
def sample_Draw.l0 : Nat → Int → Int → Int → Int → Int → Int → Int → Int → Int → Int → Int → Int → Int → Int → Int → List (S37) → Bool → Int → Int → List (S37) → Option (Int × Int × (List (S37)) × Int)
 | 0, _, _, _, _, _, _, _, _, _, _, _, _, _, _, _, _, _, _, _, _ => none
 | k + 1, x2, x62, x63, G6, G7, G3, G4, Y0, Y1, Y2, Y3, Y4, Y5, Z7, Z8, Z9, J0, J1, J2, Y7 => if x63 < x62 then (sample_Draw.l1 k x2 x63 x62 x63 G3 0 G6 G7 G3 G4 Y0 Y1 Y2 Y3 Y4 Y5 Z7 Z8 Z9 J0 J1 J2 Y7) else (some (J1, J2, Y7, 0))
def sample_Draw.l1 : Nat → Int → Int → Int → Int → Int → Int → Int → Int → Int → Int → Int → Int → Int → Int → Int → Int → Int → Int → List (S37) → Bool → Int → Int → List (S37) → Option (Int × Int × (List (S37)) × Int)
 | 0, _, _, _, _, _, _, _, _, _, _, _, _, _, _, _, _, _, _, _, _, _, _, _ => none
 | k + 1, x2, x15, x62, x63, x67, x68, G6, G7, G3, G4, Y0, Y1, Y2, Y3, Y4, Y5, Z7, Z8, Z9, J0, J1, J2, Y7 => if x68 < x67 then ((affine_Apply.f k Y0 Y1 Y2 Y3 Y4 Y5 (wrap64 ((wrap64 ((wrap64 (G6 + x68)) * 65536)) + 32768)) (wrap64 ((wrap64 ((wrap64 (G7 + x15)) * 65536)) + 32768))).bind fun E1v => ((sample_limit.f E1v.1).bind fun t268 => ((sample_limit.f E1v.2).bind fun t269 => ((sample_source_at.f k Z7 Z8 Z9 J0 x2 t268 t269).bind fun L7 => (if Y7.length < 4398046511104 then (sample_Draw.l1 k x2 x15 x62 x63 x67 (wrap64 (x68 + 1)) G6 G7 G3 G4 Y0 Y1 Y2 Y3 Y4 Y5 Z7 Z8 Z9 J0 J1 J2 (Y7 ++ [(⟨L7.1, L7.2.1, L7.2.2.1, L7.2.2.2⟩ : S37)])) else (none)))))) else (sample_Draw.l0 k x2 x62 (wrap64 (x63 + 1)) G6 G7 G3 G4 Y0 Y1 Y2 Y3 Y4 Y5 Z7 Z8 Z9 J0 J1 J2 Y7)
end
def sample_Draw.f (k : Nat) (a0_0 : Int) (a0_1 : Int) (l0_2 : List (S37)) (a1_0 : Int) (a1_1 : Int) (a1_2 : Int) (a1_3 : Int) (a1_4 : Int) (a1_5 : Int) (a2 : Int) (a3_0 : Int) (a3_1 : Int) (a3_2 : Int) (a3_3 : Int) : Option (Int × Int × (List (S37)) × Int) := (raster_Check.f k a0_0 a0_1 l0_2).bind fun t251 => (if t251 = 0 then ((rect_Valid.f a3_0 a3_1 a3_2 a3_3).bind fun t252 => (if t252 = true then (if a3_2 > 256 then (sample_Draw.j0 k a2 true a0_0 a0_1 l0_2 a1_0 a1_1 a1_2 a1_3 a1_4 a1_5 a3_0 a3_1 a3_2 a3_3) else (sample_Draw.j0 k a2 (decide (a3_3 > 256)) a0_0 a0_1 l0_2 a1_0 a1_1 a1_2 a1_3 a1_4 a1_5 a3_0 a3_1 a3_2 a3_3)) else (some (0, 0, ([] : List (S37)), 2)))) else (some (0, 0, ([] : List (S37)), t251)))
theorem sample_Draw.mono_l : ∀ k, (∀ y0 y1 y2 y3 y4 y5 y6 y7 y8 y9 y10 y11 y12 y13 y14, LeO (sample_Draw.j0 k y0 y1 y2 y3 y4 y5 y6 y7 y8 y9 y10 y11 y12 y13 y14) (sample_Draw.j0 (k + 1) y0 y1 y2 y3 y4 y5 y6 y7 y8 y9 y10 y11 y12 y13 y14)) ∧ (∀ y0 y1 y2 y3 y4 y5 y6 y7 y8 y9 y10 y11 y12 y13 y14 y15, LeO (sample_Draw.j1 k y0 y1 y2 y3 y4 y5 y6 y7 y8 y9 y10 y11 y12 y13 y14 y15) (sample_Draw.j1 (k + 1) y0 y1 y2 y3 y4 y5 y6 y7 y8 y9 y10 y11 y12 y13 y14 y15)) ∧ (∀ y0 y1 y2 y3 y4 y5 y6 y7 y8 y9 y10 y11 y12 y13 y14 y15 y16 y17 y18 y19, LeO (sample_Draw.l0 k y0 y1 y2 y3 y4 y5 y6 y7 y8 y9 y10 y11 y12 y13 y14 y15 y16 y17 y18 y19) (sample_Draw.l0 (k + 1) y0 y1 y2 y3 y4 y5 y6 y7 y8 y9 y10 y11 y12 y13 y14 y15 y16 y17 y18 y19)) ∧ (∀ y0 y1 y2 y3 y4 y5 y6 y7 y8 y9 y10 y11 y12 y13 y14 y15 y16 y17 y18 y19 y20 y21 y22, LeO (sample_Draw.l1 k y0 y1 y2 y3 y4 y5 y6 y7 y8 y9 y10 y11 y12 y13 y14 y15 y16 y17 y18 y19 y20 y21 y22) (sample_Draw.l1 (k + 1) y0 y1 y2 y3 y4 y5 y6 y7 y8 y9 y10 y11 y12 y13 y14 y15 y16 y17 y18 y19 y20 y21 y22))
 | 0 => ⟨fun _ _ _ _ _ _ _ _ _ _ _ _ _ _ _ r h => by simp [sample_Draw.j0] at h, fun _ _ _ _ _ _ _ _ _ _ _ _ _ _ _ _ r h => by simp [sample_Draw.j1] at h, fun _ _ _ _ _ _ _ _ _ _ _ _ _ _ _ _ _ _ _ _ r h => by simp [sample_Draw.l0] at h, fun _ _ _ _ _ _ _ _ _ _ _ _ _ _ _ _ _ _ _ _ _ _ _ r h => by simp [sample_Draw.l1] at h⟩
 | k + 1 => by
  obtain ⟨ih0, ih1, ih2, ih3⟩ := sample_Draw.mono_l k
  refine ⟨?_, ?_, ?_, ?_⟩
  ·intro y0 y1 y2 y3 y4 y5 y6 y7 y8 y9 y10 y11 y12 y13 y14
   unfold sample_Draw.j0
   repeat' first
   | (with_reducible exact ih0 _ _ _ _ _ _ _ _ _ _ _ _ _ _ _)
   | (with_reducible exact ih1 _ _ _ _ _ _ _ _ _ _ _ _ _ _ _ _)
   | (with_reducible exact ih2 _ _ _ _ _ _ _ _ _ _ _ _ _ _ _ _ _ _ _ _)
   | (with_reducible exact ih3 _ _ _ _ _ _ _ _ _ _ _ _ _ _ _ _ _ _ _ _ _ _ _)
   | (with_reducible exact affine_Apply.mono _ _ _ _ _ _ _ _ _)
   | (with_reducible exact affine_Inverse.mono _ _ _ _ _ _ _)
   | (with_reducible exact raster_Check.mono _ _ _ _)
   | (with_reducible exact sample_source_at.mono _ _ _ _ _ _ _ _)
   | (with_reducible exact LeO.refl _)
   | (with_reducible exact LeO.none _)
   | (with_reducible refine LeO.ite ?_ ?_)
   | (with_reducible refine LeO.bind ?_ (fun _ => ?_))
   | exact ih0 _ _ _ _ _ _ _ _ _ _ _ _ _ _ _
   | exact ih1 _ _ _ _ _ _ _ _ _ _ _ _ _ _ _ _
   | exact ih2 _ _ _ _ _ _ _ _ _ _ _ _ _ _ _ _ _ _ _ _
   | exact ih3 _ _ _ _ _ _ _ _ _ _ _ _ _ _ _ _ _ _ _ _ _ _ _
   | exact affine_Apply.mono _ _ _ _ _ _ _ _ _
   | exact affine_Inverse.mono _ _ _ _ _ _ _
   | exact raster_Check.mono _ _ _ _
   | exact sample_source_at.mono _ _ _ _ _ _ _ _
   | exact LeO.none _
   | refine LeO.ite ?_ ?_
   | refine LeO.bind ?_ (fun _ => ?_)
  ·intro y0 y1 y2 y3 y4 y5 y6 y7 y8 y9 y10 y11 y12 y13 y14 y15
   unfold sample_Draw.j1
   repeat' first
   | (with_reducible exact ih0 _ _ _ _ _ _ _ _ _ _ _ _ _ _ _)
   | (with_reducible exact ih1 _ _ _ _ _ _ _ _ _ _ _ _ _ _ _ _)
   | (with_reducible exact ih2 _ _ _ _ _ _ _ _ _ _ _ _ _ _ _ _ _ _ _ _)
   | (with_reducible exact ih3 _ _ _ _ _ _ _ _ _ _ _ _ _ _ _ _ _ _ _ _ _ _ _)
   | (with_reducible exact affine_Apply.mono _ _ _ _ _ _ _ _ _)
   | (with_reducible exact affine_Inverse.mono _ _ _ _ _ _ _)
   | (with_reducible exact raster_Check.mono _ _ _ _)
   | (with_reducible exact sample_source_at.mono _ _ _ _ _ _ _ _)
   | (with_reducible exact LeO.refl _)
   | (with_reducible exact LeO.none _)
   | (with_reducible refine LeO.ite ?_ ?_)
   | (with_reducible refine LeO.bind ?_ (fun _ => ?_))
   | exact ih0 _ _ _ _ _ _ _ _ _ _ _ _ _ _ _
   | exact ih1 _ _ _ _ _ _ _ _ _ _ _ _ _ _ _ _
   | exact ih2 _ _ _ _ _ _ _ _ _ _ _ _ _ _ _ _ _ _ _ _
   | exact ih3 _ _ _ _ _ _ _ _ _ _ _ _ _ _ _ _ _ _ _ _ _ _ _
   | exact affine_Apply.mono _ _ _ _ _ _ _ _ _
   | exact affine_Inverse.mono _ _ _ _ _ _ _
   | exact raster_Check.mono _ _ _ _
   | exact sample_source_at.mono _ _ _ _ _ _ _ _
   | exact LeO.none _
   | refine LeO.ite ?_ ?_
   | refine LeO.bind ?_ (fun _ => ?_)
  ·intro y0 y1 y2 y3 y4 y5 y6 y7 y8 y9 y10 y11 y12 y13 y14 y15 y16 y17 y18 y19
   unfold sample_Draw.l0
   repeat' first
   | (with_reducible exact ih0 _ _ _ _ _ _ _ _ _ _ _ _ _ _ _)
   | (with_reducible exact ih1 _ _ _ _ _ _ _ _ _ _ _ _ _ _ _ _)
   | (with_reducible exact ih2 _ _ _ _ _ _ _ _ _ _ _ _ _ _ _ _ _ _ _ _)
   | (with_reducible exact ih3 _ _ _ _ _ _ _ _ _ _ _ _ _ _ _ _ _ _ _ _ _ _ _)
   | (with_reducible exact affine_Apply.mono _ _ _ _ _ _ _ _ _)
   | (with_reducible exact affine_Inverse.mono _ _ _ _ _ _ _)
   | (with_reducible exact raster_Check.mono _ _ _ _)
   | (with_reducible exact sample_source_at.mono _ _ _ _ _ _ _ _)
   | (with_reducible exact LeO.refl _)
   | (with_reducible exact LeO.none _)
   | (with_reducible refine LeO.ite ?_ ?_)
   | (with_reducible refine LeO.bind ?_ (fun _ => ?_))
   | exact ih0 _ _ _ _ _ _ _ _ _ _ _ _ _ _ _
   | exact ih1 _ _ _ _ _ _ _ _ _ _ _ _ _ _ _ _
   | exact ih2 _ _ _ _ _ _ _ _ _ _ _ _ _ _ _ _ _ _ _ _
   | exact ih3 _ _ _ _ _ _ _ _ _ _ _ _ _ _ _ _ _ _ _ _ _ _ _
   | exact affine_Apply.mono _ _ _ _ _ _ _ _ _
   | exact affine_Inverse.mono _ _ _ _ _ _ _
   | exact raster_Check.mono _ _ _ _
   | exact sample_source_at.mono _ _ _ _ _ _ _ _
   | exact LeO.none _
   | refine LeO.ite ?_ ?_
   | refine LeO.bind ?_ (fun _ => ?_)
  ·intro y0 y1 y2 y3 y4 y5 y6 y7 y8 y9 y10 y11 y12 y13 y14 y15 y16 y17 y18 y19 y20 y21 y22
   unfold sample_Draw.l1
   repeat' first
   | (with_reducible exact ih0 _ _ _ _ _ _ _ _ _ _ _ _ _ _ _)
   | (with_reducible exact ih1 _ _ _ _ _ _ _ _ _ _ _ _ _ _ _ _)
   | (with_reducible exact ih2 _ _ _ _ _ _ _ _ _ _ _ _ _ _ _ _ _ _ _ _)
   | (with_reducible exact ih3 _ _ _ _ _ _ _ _ _ _ _ _ _ _ _ _ _ _ _ _ _ _ _)
   | (with_reducible exact affine_Apply.mono _ _ _ _ _ _ _ _ _)
   | (with_reducible exact affine_Inverse.mono _ _ _ _ _ _ _)
   | (with_reducible exact raster_Check.mono _ _ _ _)
   | (with_reducible exact sample_source_at.mono _ _ _ _ _ _ _ _)
   | (with_reducible exact LeO.refl _)
   | (with_reducible exact LeO.none _)
   | (with_reducible refine LeO.ite ?_ ?_)
   | (with_reducible refine LeO.bind ?_ (fun _ => ?_))
   | exact ih0 _ _ _ _ _ _ _ _ _ _ _ _ _ _ _
   | exact ih1 _ _ _ _ _ _ _ _ _ _ _ _ _ _ _ _
   | exact ih2 _ _ _ _ _ _ _ _ _ _ _ _ _ _ _ _ _ _ _ _
   | exact ih3 _ _ _ _ _ _ _ _ _ _ _ _ _ _ _ _ _ _ _ _ _ _ _
   | exact affine_Apply.mono _ _ _ _ _ _ _ _ _
   | exact affine_Inverse.mono _ _ _ _ _ _ _
   | exact raster_Check.mono _ _ _ _
   | exact sample_source_at.mono _ _ _ _ _ _ _ _
   | exact LeO.none _
   | refine LeO.ite ?_ ?_
   | refine LeO.bind ?_ (fun _ => ?_)
theorem sample_Draw.mono : ∀ a0 a1 a2 a3 a4 a5 a6 a7 a8 a9 a10 a11 a12 a13 k, LeO (sample_Draw.f k a0 a1 a2 a3 a4 a5 a6 a7 a8 a9 a10 a11 a12 a13) (sample_Draw.f (k + 1) a0 a1 a2 a3 a4 a5 a6 a7 a8 a9 a10 a11 a12 a13) := by
 intro a0 a1 a2 a3 a4 a5 a6 a7 a8 a9 a10 a11 a12 a13 k
 obtain ⟨ih0, ih1, ih2, ih3⟩ := sample_Draw.mono_l k
 unfold sample_Draw.f
 repeat' first
   | (with_reducible exact ih0 _ _ _ _ _ _ _ _ _ _ _ _ _ _ _)
   | (with_reducible exact ih1 _ _ _ _ _ _ _ _ _ _ _ _ _ _ _ _)
   | (with_reducible exact ih2 _ _ _ _ _ _ _ _ _ _ _ _ _ _ _ _ _ _ _ _)
   | (with_reducible exact ih3 _ _ _ _ _ _ _ _ _ _ _ _ _ _ _ _ _ _ _ _ _ _ _)
   | (with_reducible exact affine_Apply.mono _ _ _ _ _ _ _ _ _)
   | (with_reducible exact affine_Inverse.mono _ _ _ _ _ _ _)
   | (with_reducible exact raster_Check.mono _ _ _ _)
   | (with_reducible exact sample_source_at.mono _ _ _ _ _ _ _ _)
   | (with_reducible exact LeO.refl _)
   | (with_reducible exact LeO.none _)
   | (with_reducible refine LeO.ite ?_ ?_)
   | (with_reducible refine LeO.bind ?_ (fun _ => ?_))
   | exact ih0 _ _ _ _ _ _ _ _ _ _ _ _ _ _ _
   | exact ih1 _ _ _ _ _ _ _ _ _ _ _ _ _ _ _ _
   | exact ih2 _ _ _ _ _ _ _ _ _ _ _ _ _ _ _ _ _ _ _ _
   | exact ih3 _ _ _ _ _ _ _ _ _ _ _ _ _ _ _ _ _ _ _ _ _ _ _
   | exact affine_Apply.mono _ _ _ _ _ _ _ _ _
   | exact affine_Inverse.mono _ _ _ _ _ _ _
   | exact raster_Check.mono _ _ _ _
   | exact sample_source_at.mono _ _ _ _ _ _ _ _
   | exact LeO.none _
   | refine LeO.ite ?_ ?_
   | refine LeO.bind ?_ (fun _ => ?_)
def sample_Draw.T22 : Bool × List (List Nat × List Nat) := (true, [([], []), ([0], [0]), ([], []), ([], []), ([], []), ([4], [4]), ([5], [5]), ([], []), ([7], [7]), ([8, 6], [8]), ([2, 3, 6, 9, 9], [2, 3, 6, 9]), ([10], [10]), ([1, 11, 10], [1, 11]), ([0, 1, 2, 3, 4, 5, 6, 7, 8, 9, 10, 11, 12], []), ([13, 12, 12, 0, 1, 2, 3, 4, 5, 6, 7, 8, 9, 10, 11, 12], [12, 13])])
def sample_Draw.B22 : List Nat := [0, 1, 0, 0, 0, 16, 48, 0, 128, 496, 1020, 2044, 4095, 8191, 16383]
theorem sample_Draw.tab22 : rtab .any (opsOf Try.f9 22) = sample_Draw.T22 := by kernel_rfl
theorem sample_Draw.bits22 : waitsOk sample_Draw.T22.2 sample_Draw.B22 = true := by kernel_rfl
set_option maxHeartbeats 8000000 in
set_option maxRecDepth 100000 in
theorem sample_Draw.calls (k : Nat) (a0_0 : Int) (a0_1 : Int) (A0_2 : Option Addr) (c0_2 : Nat) (l0_2 : List (S37)) (a1_0 : Int) (a1_1 : Int) (a1_2 : Int) (a1_3 : Int) (a1_4 : Int) (a1_5 : Int) (a2 : Int) (a3_0 : Int) (a3_1 : Int) (a3_2 : Int) (a3_3 : Int) (r1 : Int) (r2 : Int) (r3 : List (S37)) (r4 : Int) (w : World) (hr0_2 : Kd.C k37 w A0_2 l0_2.length l0_2) (hc0_2 : l0_2.length ≤ c0_2) (h : sample_Draw.f k a0_0 a0_1 l0_2 a1_0 a1_1 a1_2 a1_3 a1_4 a1_5 a2 a3_0 a3_1 a3_2 a3_3 = some (r1, r2, r3, r4)) :
  Calls Try.prog 9 #[.agg #[.int .i64 a0_0, .int .i64 a0_1, .slice A0_2 l0_2.length c0_2], .agg #[.int .i64 a1_0, .int .i64 a1_1, .int .i64 a1_2, .int .i64 a1_3, .int .i64 a1_4, .int .i64 a1_5], .int .i64 a2, .agg #[.int .i64 a3_0, .int .i64 a3_1, .int .i64 a3_2, .int .i64 a3_3]] w fun e w' => ∃ v2_ : Value, e = .returned (.tuple #[.agg #[.int .i64 r1, .int .i64 r2, v2_], .int .i64 r4]) ∧ Kd.R k37 37 w' w.heap.size (fun _ => True) v2_ r3 ∧ Below w.heap.size w w' := by
 have hu24 := Try.underlying24
 have hu32 := Try.underlying32
 have hu27 := Try.underlying27
 have hu60 := Try.underlying60
 have hu54 := Try.underlying54
 have L8 := Aside0.mk hr0_2
 have L9 := Aside0.mk hc0_2
 clear hr0_2 hc0_2
 have HB := Aside0.mk (Below.refl w.heap.size w)
 have H : ((raster_Check.f k a0_0 a0_1 l0_2).bind fun t251 => (if t251 = 0 then ((rect_Valid.f a3_0 a3_1 a3_2 a3_3).bind fun t252 => (if t252 = true then (if a3_2 > 256 then (sample_Draw.j0 k a2 true a0_0 a0_1 l0_2 a1_0 a1_1 a1_2 a1_3 a1_4 a1_5 a3_0 a3_1 a3_2 a3_3) else (sample_Draw.j0 k a2 (decide (a3_3 > 256)) a0_0 a0_1 l0_2 a1_0 a1_1 a1_2 a1_3 a1_4 a1_5 a3_0 a3_1 a3_2 a3_3)) else (some (0, 0, ([] : List (S37)), 2)))) else (some (0, 0, ([] : List (S37)), t251)))) = some (r1, r2, r3, r4) := h
 clear h
 replace H := Option.bind_eq_some_iff.mp H
 obtain ⟨t251, A50, H⟩ := H
 try dsimp only at H
 have A5 := Aside0.mk A50
 clear A50
 by_cases c6 : t251 = 0
 rotate_left
 ·rw [if_neg c6] at H
  have J3 : (t251 == 0) = false := beq_eq_false_iff_ne.mpr c6
  have J4 : (t251 != 0) = true := bne_iff_ne.mpr c6
  simp only [Option.some.injEq, Prod.mk.injEq] at H
  obtain ⟨rfl, rfl, rfl, rfl⟩ := H
  go_enter Try.func9, Try.ntmps9
  go_wp2_with (first | ((with_reducible refine gate_dst (N := 4) rfl ?_); refine box_event ?hg (N := 4) ?hd (cs := #[.int .i64 a0_0, .int .i64 a0_1, .slice A0_2 l0_2.length c0_2]) (t := 24) ?hr ?_; (case hd => rfl); (case hg => rfl); (case hr => first | (go_simp; done) | (go_simp; rfl)); intro G8 hg w148 hbox hb; have E1w := zg HB hg; have E1x := zg HB hg; have n0_ := Aside0.mk (hbox); replace HB := zb HB hb; have E0 := n0_; clear n0_; clear hb hbox hg) | ((with_reducible refine gate_dst (N := 5) rfl ?_); refine box_event ?hg (N := 5) ?hd (cs := #[.int .i64 a1_0, .int .i64 a1_1, .int .i64 a1_2, .int .i64 a1_3, .int .i64 a1_4, .int .i64 a1_5]) (t := 32) ?hr ?_; (case hd => rfl); (case hg => rfl); (case hr => first | (go_simp; done) | (go_simp; rfl)); intro G9 hg w149 hbox hb; have E1y := zg HB hg; have E1z := zg HB hg; have Y8 := zn E0 hg; have Y9 := zn' E0 hg; have n0_ := Aside0.mk (hbox); replace E0 := zk E0 hb; replace HB := zb HB hb; have E1 := n0_; clear n0_; clear hb hbox hg) | ((with_reducible refine gate_dst (N := 7) rfl ?_); refine box_event ?hg (N := 7) ?hd (cs := #[.int .i64 a3_0, .int .i64 a3_1, .int .i64 a3_2, .int .i64 a3_3]) (t := 27) ?hr ?_; (case hd => rfl); (case hg => rfl); (case hr => first | (go_simp; done) | (go_simp; rfl)); intro V0 hg w150 hbox hb; have E1A := zg HB hg; have E1B := zg HB hg; have Z0 := zn E0 hg; have Z1 := zn' E0 hg; have Z2 := zn E1 hg; have Z3 := zn' E1 hg; have n0_ := Aside0.mk (hbox); replace E0 := zk E0 hb; replace E1 := zk E1 hb; replace HB := zb HB hb; have E2 := n0_; clear n0_; clear hb hbox hg) | ((with_reducible refine gate_dst (N := 8) rfl ?_); refine box_event ?hg (N := 8) ?hd (cs := #[.int .i64 0, .int .i64 0, .slice none 0 0]) (t := 24) ?hr ?_; (case hd => rfl); (case hg => rfl); (case hr => first | (go_simp; done) | (go_simp; rfl)); intro G1 hg w151 hbox hb; have E1C := zg HB hg; have V8 := zg HB hg; have V3 := zn E0 hg; have V4 := zn' E0 hg; have V5 := zn E1 hg; have V6 := zn' E1 hg; have V1 := zn E2 hg; have V2 := zn' E2 hg; have n0_ := Aside0.mk (hbox); replace E0 := zk E0 hb; replace E1 := zk E1 hb; replace E2 := zk E2 hb; replace HB := zb HB hb; have E3 := n0_; clear n0_; clear hb hbox hg; have E3f := Y8.out; have E3g := Y9.out; have E3h := Z0.out; have E3i := Z1.out; have E3j := V3.out; have E3k := V4.out; obtain ⟨E3l, E3m, E3n, E3o, E3p, E3q⟩ := zq3 E0) | ((with_reducible refine gate_callee (f := 11) rfl ?_); refine goesL_ (some 19) rfl rfl Try.func11 (by kernel_rfl) rfl #[.agg #[.int .i64 a0_0, .int .i64 a0_1, .slice A0_2 l0_2.length c0_2]] rfl (by (try simp only [List.map_toArray, List.map_cons, List.map_nil]); first | done | rfl | (simp only [List.length_drop, List.length_take]; rfl)) ?_; (with_reducible refine (raster_Check.calls k a0_0 a0_1 _ _ l0_2 t251 _ ?side1 ?side2 A5.out).mono ?_); (case side1 => repeat (first | exact (Kd.C_below L8.out HB.out) | (with_reducible refine Kd.C_alloc ?_ _) | (with_reducible refine Kd.C_drewN ?_ _) | (with_reducible refine Kd.C_drew ?_))); (case side2 => exact L9.out); rintro e w156 ⟨rfl, hb⟩; refine ⟨_, rfl, ?_⟩; replace E0 := zk E0 hb; replace E1 := zk E1 hb; replace E2 := zk E2 hb; replace E3 := zk E3 hb; replace HB := zb HB hb; (try clear hb); have E3r := V6.out; have E3s := V5.out; have E3t := V2.out; have E3u := V1.out; obtain ⟨E3v, E3w, E3x, E3y, E3z, E3A⟩ := zq3 E3))
  refine bodyPost_ret (results_ct rfl _ _ G1 24 #[.int .i64 0, .int .i64 0, .slice none 0 0] (0, 0) _ rfl (by exact zp E3 rfl) Try.underlying24 rfl (by kernel_rfl)) rfl ?_
  exact ⟨_, by first | rfl | (simp [errW_none, errW_some] <;> rfl) | (simp [*, errW_none, errW_some] <;> rfl), by first | exact Kd.R_nil _ _ _ _ _ | exact Kd.N_nil _ _ _ _ _ | exact Kd.V_nil _ _ _ _ _ | exact Kd.Q_nil _ _ _ _ _ | exact Kd.S_nil _ _ _ _ _, by exact zbo HB V8⟩

 rw [if_pos c6] at H
 have J3 : (t251 == 0) = true := beq_iff_eq.mpr c6
 have J4 : (t251 != 0) = false := bne_eq_false_iff_eq.mpr c6
 clear c6
 replace H := Option.bind_eq_some_iff.mp H
 obtain ⟨t252, A70, H⟩ := H
 try dsimp only at H
 have A7 := Aside0.mk A70
 clear A70
 by_cases c8 : t252 = true
 rotate_left
 ·replace c8 := Bool.eq_false_iff.mpr c8
  subst c8
  rw [if_neg (show ¬ (false = true) by decide)] at H
  simp only [Option.some.injEq, Prod.mk.injEq] at H
  obtain ⟨rfl, rfl, rfl, rfl⟩ := H
  go_enter Try.func9, Try.ntmps9
  go_wp2_with (first | ((with_reducible refine gate_dst (N := 4) rfl ?_); refine box_event ?hg (N := 4) ?hd (cs := #[.int .i64 a0_0, .int .i64 a0_1, .slice A0_2 l0_2.length c0_2]) (t := 24) ?hr ?_; (case hd => rfl); (case hg => rfl); (case hr => first | (go_simp; done) | (go_simp; rfl)); intro G8 hg w133 hbox hb; have E1w := zg HB hg; have E1x := zg HB hg; have n0_ := Aside0.mk (hbox); replace HB := zb HB hb; have E0 := n0_; clear n0_; clear hb hbox hg) | ((with_reducible refine gate_dst (N := 5) rfl ?_); refine box_event ?hg (N := 5) ?hd (cs := #[.int .i64 a1_0, .int .i64 a1_1, .int .i64 a1_2, .int .i64 a1_3, .int .i64 a1_4, .int .i64 a1_5]) (t := 32) ?hr ?_; (case hd => rfl); (case hg => rfl); (case hr => first | (go_simp; done) | (go_simp; rfl)); intro G9 hg w134 hbox hb; have E1y := zg HB hg; have E1z := zg HB hg; have Y8 := zn E0 hg; have Y9 := zn' E0 hg; have n0_ := Aside0.mk (hbox); replace E0 := zk E0 hb; replace HB := zb HB hb; have E1 := n0_; clear n0_; clear hb hbox hg) | ((with_reducible refine gate_dst (N := 7) rfl ?_); refine box_event ?hg (N := 7) ?hd (cs := #[.int .i64 a3_0, .int .i64 a3_1, .int .i64 a3_2, .int .i64 a3_3]) (t := 27) ?hr ?_; (case hd => rfl); (case hg => rfl); (case hr => first | (go_simp; done) | (go_simp; rfl)); intro V0 hg w135 hbox hb; have E1A := zg HB hg; have E1B := zg HB hg; have Z0 := zn E0 hg; have Z1 := zn' E0 hg; have Z2 := zn E1 hg; have Z3 := zn' E1 hg; have n0_ := Aside0.mk (hbox); replace E0 := zk E0 hb; replace E1 := zk E1 hb; replace HB := zb HB hb; have E2 := n0_; clear n0_; clear hb hbox hg) | ((with_reducible refine gate_dst (N := 8) rfl ?_); refine box_event ?hg (N := 8) ?hd (cs := #[.int .i64 0, .int .i64 0, .slice none 0 0]) (t := 24) ?hr ?_; (case hd => rfl); (case hg => rfl); (case hr => first | (go_simp; done) | (go_simp; rfl)); intro G1 hg w136 hbox hb; have E1C := zg HB hg; have V8 := zg HB hg; have V3 := zn E0 hg; have V4 := zn' E0 hg; have V5 := zn E1 hg; have V6 := zn' E1 hg; have V1 := zn E2 hg; have V2 := zn' E2 hg; have n0_ := Aside0.mk (hbox); replace E0 := zk E0 hb; replace E1 := zk E1 hb; replace E2 := zk E2 hb; replace HB := zb HB hb; have E3 := n0_; clear n0_; clear hb hbox hg; have E3B := Y8.out; have E3C := Y9.out; have E3D := Z0.out; have E3E := Z1.out; have E3F := V3.out; have E3G := V4.out; obtain ⟨E3H, E3I, E3J, E3K, E3L, E3M⟩ := zq3 E0) | ((with_reducible refine gate_callee (f := 11) rfl ?_); refine goesL_ (some 19) rfl rfl Try.func11 (by kernel_rfl) rfl #[.agg #[.int .i64 a0_0, .int .i64 a0_1, .slice A0_2 l0_2.length c0_2]] rfl (by (try simp only [List.map_toArray, List.map_cons, List.map_nil]); first | done | rfl | (simp only [List.length_drop, List.length_take]; rfl)) ?_; (with_reducible refine (raster_Check.calls k a0_0 a0_1 _ _ l0_2 t251 _ ?side1 ?side2 A5.out).mono ?_); (case side1 => repeat (first | exact (Kd.C_below L8.out HB.out) | (with_reducible refine Kd.C_alloc ?_ _) | (with_reducible refine Kd.C_drewN ?_ _) | (with_reducible refine Kd.C_drew ?_))); (case side2 => exact L9.out); rintro e w141 ⟨rfl, hb⟩; refine ⟨_, rfl, ?_⟩; replace E0 := zk E0 hb; replace E1 := zk E1 hb; replace E2 := zk E2 hb; replace E3 := zk E3 hb; replace HB := zb HB hb; (try clear hb); have E3N := Z3.out; have E3O := Z2.out; have E3P := V1.out; have E3Q := V2.out; obtain ⟨E3R, E3S, E3T, E3U, E3V, E3W, E3X, E3Y⟩ := zq4 E2) | ((with_reducible refine gate_callee (f := 24) rfl ?_); refine goesL_ (some 25) rfl rfl Try.func24 (by kernel_rfl) rfl #[.agg #[.int .i64 a3_0, .int .i64 a3_1, .int .i64 a3_2, .int .i64 a3_3]] rfl (by (try simp only [List.map_toArray, List.map_cons, List.map_nil]); first | done | rfl | (simp only [List.length_drop, List.length_take]; rfl)) ?_; (with_reducible refine (rect_Valid.calls a3_0 a3_1 a3_2 a3_3 false _ A7.out).mono ?_); rintro e w145 ⟨rfl, hb⟩; refine ⟨_, rfl, ?_⟩; replace E0 := zk E0 hb; replace E1 := zk E1 hb; replace E2 := zk E2 hb; replace E3 := zk E3 hb; replace HB := zb HB hb; (try clear hb); have E3Z := V6.out; have E4a := V5.out; obtain ⟨E4b, E4c, E4d, E4e, E4f, E4g⟩ := zq3 E3))
  refine bodyPost_ret (results_ct rfl _ _ G1 24 #[.int .i64 0, .int .i64 0, .slice none 0 0] (0, 0) _ rfl (by exact zp E3 rfl) Try.underlying24 rfl (by kernel_rfl)) rfl ?_
  exact ⟨_, by first | rfl | (simp [errW_none, errW_some] <;> rfl) | (simp [*, errW_none, errW_some] <;> rfl), by first | exact Kd.R_nil _ _ _ _ _ | exact Kd.N_nil _ _ _ _ _ | exact Kd.V_nil _ _ _ _ _ | exact Kd.Q_nil _ _ _ _ _ | exact Kd.S_nil _ _ _ _ _, by exact zbo HB V8⟩
 subst c8
 rw [if_pos rfl] at H
 have HC9 := Aside0.mk H
 clear H
 go_enter Try.func9, Try.ntmps9
 go_upto_region 6 with (first | ((with_reducible refine gate_dst (N := 4) rfl ?_); refine box_event ?hg (N := 4) ?hd (cs := #[.int .i64 a0_0, .int .i64 a0_1, .slice A0_2 l0_2.length c0_2]) (t := 24) ?hr ?_; (case hd => rfl); (case hg => rfl); (case hr => first | (go_simp; done) | (go_simp; rfl)); intro G8 hg w10 hbox hb; have E1w := zg HB hg; have E1x := zg HB hg; have n0_ := Aside0.mk (hbox); replace HB := zb HB hb; have E0 := n0_; clear n0_; clear hb hbox hg) | ((with_reducible refine gate_dst (N := 5) rfl ?_); refine box_event ?hg (N := 5) ?hd (cs := #[.int .i64 a1_0, .int .i64 a1_1, .int .i64 a1_2, .int .i64 a1_3, .int .i64 a1_4, .int .i64 a1_5]) (t := 32) ?hr ?_; (case hd => rfl); (case hg => rfl); (case hr => first | (go_simp; done) | (go_simp; rfl)); intro G9 hg w11 hbox hb; have E1y := zg HB hg; have E1z := zg HB hg; have Y8 := zn E0 hg; have Y9 := zn' E0 hg; have n0_ := Aside0.mk (hbox); replace E0 := zk E0 hb; replace HB := zb HB hb; have E1 := n0_; clear n0_; clear hb hbox hg) | ((with_reducible refine gate_dst (N := 7) rfl ?_); refine box_event ?hg (N := 7) ?hd (cs := #[.int .i64 a3_0, .int .i64 a3_1, .int .i64 a3_2, .int .i64 a3_3]) (t := 27) ?hr ?_; (case hd => rfl); (case hg => rfl); (case hr => first | (go_simp; done) | (go_simp; rfl)); intro V0 hg w12 hbox hb; have E1A := zg HB hg; have E1B := zg HB hg; have Z0 := zn E0 hg; have Z1 := zn' E0 hg; have Z2 := zn E1 hg; have Z3 := zn' E1 hg; have n0_ := Aside0.mk (hbox); replace E0 := zk E0 hb; replace E1 := zk E1 hb; replace HB := zb HB hb; have E2 := n0_; clear n0_; clear hb hbox hg) | ((with_reducible refine gate_dst (N := 8) rfl ?_); refine box_event ?hg (N := 8) ?hd (cs := #[.int .i64 0, .int .i64 0, .slice none 0 0]) (t := 24) ?hr ?_; (case hd => rfl); (case hg => rfl); (case hr => first | (go_simp; done) | (go_simp; rfl)); intro G1 hg w13 hbox hb; have E1C := zg HB hg; have V8 := zg HB hg; have V3 := zn E0 hg; have V4 := zn' E0 hg; have V5 := zn E1 hg; have V6 := zn' E1 hg; have V1 := zn E2 hg; have V2 := zn' E2 hg; have n0_ := Aside0.mk (hbox); replace E0 := zk E0 hb; replace E1 := zk E1 hb; replace E2 := zk E2 hb; replace HB := zb HB hb; have E3 := n0_; clear n0_; clear hb hbox hg; obtain ⟨Q0, Q1, Q2, Q3, Q4, Q5⟩ := zq3 E0) | ((with_reducible refine gate_callee (f := 11) rfl ?_); refine goesL_ (some 19) rfl rfl Try.func11 (by kernel_rfl) rfl #[.agg #[.int .i64 a0_0, .int .i64 a0_1, .slice A0_2 l0_2.length c0_2]] rfl (by (try simp only [List.map_toArray, List.map_cons, List.map_nil]); first | done | rfl | (simp only [List.length_drop, List.length_take]; rfl)) ?_; (with_reducible refine (raster_Check.calls k a0_0 a0_1 _ _ l0_2 t251 _ ?side1 ?side2 A5.out).mono ?_); (case side1 => repeat (first | exact (Kd.C_below L8.out HB.out) | (with_reducible refine Kd.C_alloc ?_ _) | (with_reducible refine Kd.C_drewN ?_ _) | (with_reducible refine Kd.C_drew ?_))); (case side2 => exact L9.out); rintro e w15 ⟨rfl, hb⟩; refine ⟨_, rfl, ?_⟩; replace E0 := zk E0 hb; replace E1 := zk E1 hb; replace E2 := zk E2 hb; replace E3 := zk E3 hb; replace HB := zb HB hb; (try clear hb); (try clear hb2); (try clear hk); (try clear hi); obtain ⟨Q6, Q7, Q8, Q9, E0a, E0b, E0c, E0d⟩ := zq4 E2) | ((with_reducible refine gate_callee (f := 24) rfl ?_); refine goesL_ (some 25) rfl rfl Try.func24 (by kernel_rfl) rfl #[.agg #[.int .i64 a3_0, .int .i64 a3_1, .int .i64 a3_2, .int .i64 a3_3]] rfl (by (try simp only [List.map_toArray, List.map_cons, List.map_nil]); first | done | rfl | (simp only [List.length_drop, List.length_take]; rfl)) ?_; (with_reducible refine (rect_Valid.calls a3_0 a3_1 a3_2 a3_3 true _ A7.out).mono ?_); rintro e w17 ⟨rfl, hb⟩; refine ⟨_, rfl, ?_⟩; replace E0 := zk E0 hb; replace E1 := zk E1 hb; replace E2 := zk E2 hb; replace E3 := zk E3 hb; replace HB := zb HB hb; (try clear hb); (try clear hb2); (try clear hk); (try clear hi)))
 (try simp only [Act.put, sA, sB, sC])
 go_cut [35] (fun v35 wc => ∃ (kq : Nat) (x35_8 : Bool), v35 = .bool x35_8 ∧ Aside0 (sample_Draw.j0 kq a2 x35_8 a0_0 a0_1 l0_2 a1_0 a1_1 a1_2 a1_3 a1_4 a1_5 a3_0 a3_1 a3_2 a3_3 = some (r1, r2, r3, r4)) ∧ Aside0 (kq ≤ k) ∧ Aside0 (wc.heap[G8]? = some (.cells #[.int .i64 a0_0, .int .i64 a0_1, (.slice A0_2 l0_2.length c0_2)] 24 (0, 0))) ∧ Aside0 (wc.heap[G9]? = some (.cells #[.int .i64 a1_0, .int .i64 a1_1, .int .i64 a1_2, .int .i64 a1_3, .int .i64 a1_4, .int .i64 a1_5] 32 (0, 0))) ∧ Aside0 (wc.heap[V0]? = some (.cells #[.int .i64 a3_0, .int .i64 a3_1, .int .i64 a3_2, .int .i64 a3_3] 27 (0, 0))) ∧ Aside0 (wc.heap[G1]? = some (.cells #[.int .i64 0, .int .i64 0, (.slice none 0 0)] 24 (0, 0))) ∧ Aside0 (Below w.heap.size w wc))
 case first =>
  have H := HC9.out
  clear HC9
  by_cases c18 : a3_2 > 256
  ·rw [if_pos c18] at H
   have V7 : decide (256 < a3_2) = true := decide_eq_true c18
   clear c18
   (first | rw [V7] | (simp only [i64_w, i32_w]; rw [V7]) | skip)
   have H' := Aside0.mk H
   clear H
   obtain ⟨E0e, E0f, E0g, E0h, E0i, E0j, E0k, E0l⟩ := zq4 E2
   go_wp2
   go_meet
   case rel => exact ⟨_, (true), (by first | rfl | (simp; done) | (simp [*]; done)), H', ⟨by first | omega | exact Nat.le_refl _⟩, ⟨by exact zk0 E0⟩, ⟨by exact zk0 E1⟩, ⟨by exact zk0 E2⟩, ⟨by exact zk0 E3⟩, ⟨by exact zb0 HB⟩⟩
  rw [if_neg c18] at H
  have V7 : decide (256 < a3_2) = false := decide_eq_false c18
  clear c18
  (first | rw [V7] | (simp only [i64_w, i32_w]; rw [V7]) | skip)
  have H' := Aside0.mk H
  clear H
  obtain ⟨E0m, E0n, E0o, E0p, E0q, E0r, E0s, E0t⟩ := zq4 E2
  go_wp2
  go_meet
  case rel => exact ⟨_, (decide (a3_3 > 256)), (by first | rfl | (simp; done) | (simp [*]; done)), H', ⟨by first | omega | exact Nat.le_refl _⟩, ⟨by exact zk0 E0⟩, ⟨by exact zk0 E1⟩, ⟨by exact zk0 E2⟩, ⟨by exact zk0 E3⟩, ⟨by exact zb0 HB⟩⟩
 case rest =>
  clear HC9
  try clear c1
  try clear c2
  try clear p2
  try clear q3
  try clear q4
  try clear c6
  try clear J3
  try clear J4
  try clear c8
  try clear c9
  try clear c11
  try clear c18
  try clear V7
  try clear Q0
  try clear Q1
  try clear Q2
  try clear Q6
  try clear Q7
  try clear Q8
  try clear Q9
  try clear E0e
  try clear E0f
  try clear E0g
  try clear E0h
  try clear E0m
  try clear E0n
  try clear E0o
  try clear E0p
  try clear Q3
  try clear Q4
  try clear Q5
  try clear E0a
  try clear E0b
  try clear E0c
  try clear E0d
  try clear E0i
  try clear E0j
  try clear E0k
  try clear E0l
  try clear E0q
  try clear E0r
  try clear E0s
  try clear E0t
  obtain ⟨kq, x35_8, rfl, HA, HJ8, E0, E1, E2, E3, HB⟩ := hcut
  cases kq with
  | zero => exact absurd HA.out (by simp [sample_Draw.j0])
  | succ kj8 =>
   have H := HA.out
   clear HA
   simp only [sample_Draw.j0] at H
   by_cases c21 : x35_8 = true
   ·subst c21
    rw [if_pos rfl] at H
    simp only [Option.some.injEq, Prod.mk.injEq] at H
    obtain ⟨rfl, rfl, rfl, rfl⟩ := H
    have E4h := V4.out
    have E4i := V3.out
    have E4j := V6.out
    have E4k := V5.out
    have E4l := V2.out
    have E4m := V1.out
    obtain ⟨E0B, E0C, E0D, E0E, E0F, E0G⟩ := zq3 E3
    go_wp2
    refine bodyPost_ret (results_ct rfl _ _ G1 24 #[.int .i64 0, .int .i64 0, .slice none 0 0] (0, 0) _ rfl (by exact zp E3 rfl) Try.underlying24 rfl (by kernel_rfl)) rfl ?_
    exact ⟨_, by first | rfl | (simp [errW_none, errW_some] <;> rfl) | (simp [*, errW_none, errW_some] <;> rfl), by first | exact Kd.R_nil _ _ _ _ _ | exact Kd.N_nil _ _ _ _ _ | exact Kd.V_nil _ _ _ _ _ | exact Kd.Q_nil _ _ _ _ _ | exact Kd.S_nil _ _ _ _ _, by exact zbo HB V8⟩
   replace c21 := Bool.eq_false_iff.mpr c21
   subst c21
   rw [if_neg (show ¬ (false = true) by decide)] at H
   replace H := Option.bind_eq_some_iff.mp H
   obtain ⟨t253, A260, H⟩ := H
   try dsimp only at H
   have A26 := Aside0.mk A260
   clear A260
   by_cases c27 : t253 = true
   rotate_left
   ·replace c27 := Bool.eq_false_iff.mpr c27
    subst c27
    rw [if_neg (show ¬ (false = true) by decide)] at H
    simp only [Option.some.injEq, Prod.mk.injEq] at H
    obtain ⟨rfl, rfl, rfl, rfl⟩ := H
    go_wp2_with (first | ((with_reducible refine gate_callee (f := 25) rfl ?_); refine goesL_ (some 38) rfl rfl Try.func25 (by kernel_rfl) rfl #[.int .i64 a2] rfl (by (try simp only [List.map_toArray, List.map_cons, List.map_nil]); first | done | rfl | (simp only [List.length_drop, List.length_take]; rfl)) ?_; (with_reducible refine (kernel_Valid.calls a2 false _ A26.out).mono ?_); rintro e w' ⟨rfl, ⟨nd, rfl⟩⟩; refine ⟨_, rfl, ?_⟩; (try (rw [drewN_self wc]; generalize hq_ : World.drewN wc _ = wc; have n0_ : Aside0 (wc.heap[G8]? = some (.cells #[.int .i64 a0_0, .int .i64 a0_1, .slice A0_2 l0_2.length c0_2] 24 (0, 0))) := ⟨by rw [← hq_]; exact (by exact zk0 E0)⟩; have n1_ : Aside0 (wc.heap[G9]? = some (.cells #[.int .i64 a1_0, .int .i64 a1_1, .int .i64 a1_2, .int .i64 a1_3, .int .i64 a1_4, .int .i64 a1_5] 32 (0, 0))) := ⟨by rw [← hq_]; exact (by exact zk0 E1)⟩; have n2_ : Aside0 (wc.heap[V0]? = some (.cells #[.int .i64 a3_0, .int .i64 a3_1, .int .i64 a3_2, .int .i64 a3_3] 27 (0, 0))) := ⟨by rw [← hq_]; exact (by exact zk0 E2)⟩; have n3_ : Aside0 (wc.heap[G1]? = some (.cells #[.int .i64 0, .int .i64 0, .slice none 0 0] 24 (0, 0))) := ⟨by rw [← hq_]; exact (by exact zk0 E3)⟩; have n4_ : Aside0 (Below w.heap.size w wc) := ⟨by rw [← hq_]; exact (by exact zb0 HB)⟩; clear E0 E1 E2 E3 HB hq_; have E0 := n0_; have E1 := n1_; have E2 := n2_; have E3 := n3_; have HB := n4_; clear n0_ n1_ n2_ n3_ n4_)); have E4n := V4.out; have E4o := V3.out; have E4p := V6.out; have E4q := V5.out; have E4r := V2.out; have E4s := V1.out; obtain ⟨E4t, E4u, E4v, E4w, E4x, E4y⟩ := zq3 E3))
    refine bodyPost_ret (results_ct rfl _ _ G1 24 #[.int .i64 0, .int .i64 0, .slice none 0 0] (0, 0) _ rfl (by exact zp E3 rfl) Try.underlying24 rfl (by kernel_rfl)) rfl ?_
    exact ⟨_, by first | rfl | (simp [errW_none, errW_some] <;> rfl) | (simp [*, errW_none, errW_some] <;> rfl), by first | exact Kd.R_nil _ _ _ _ _ | exact Kd.N_nil _ _ _ _ _ | exact Kd.V_nil _ _ _ _ _ | exact Kd.Q_nil _ _ _ _ _ | exact Kd.S_nil _ _ _ _ _, by exact zbo HB V8⟩
   subst c27
   rw [if_pos rfl] at H
   replace H := Option.bind_eq_some_iff.mp H
   obtain ⟨⟨t254, t255, t256, t257, t258, t259, t260⟩, A280, H⟩ := H
   try dsimp only at H
   have A28 := Aside0.mk A280
   clear A280
   have HC29 := Aside0.mk H
   clear H
   go_upto_region 11 with (first | ((with_reducible refine gate_callee (f := 25) rfl ?_); refine goesL_ (some 38) rfl rfl Try.func25 (by kernel_rfl) rfl #[.int .i64 a2] rfl (by (try simp only [List.map_toArray, List.map_cons, List.map_nil]); first | done | rfl | (simp only [List.length_drop, List.length_take]; rfl)) ?_; (with_reducible refine (kernel_Valid.calls a2 true _ A26.out).mono ?_); rintro e w' ⟨rfl, ⟨nd, rfl⟩⟩; refine ⟨_, rfl, ?_⟩; (try (rw [drewN_self wc]; generalize hq_ : World.drewN wc _ = wc; have n0_ : Aside0 (wc.heap[G8]? = some (.cells #[.int .i64 a0_0, .int .i64 a0_1, .slice A0_2 l0_2.length c0_2] 24 (0, 0))) := ⟨by rw [← hq_]; exact (by exact zk0 E0)⟩; have n1_ : Aside0 (wc.heap[G9]? = some (.cells #[.int .i64 a1_0, .int .i64 a1_1, .int .i64 a1_2, .int .i64 a1_3, .int .i64 a1_4, .int .i64 a1_5] 32 (0, 0))) := ⟨by rw [← hq_]; exact (by exact zk0 E1)⟩; have n2_ : Aside0 (wc.heap[V0]? = some (.cells #[.int .i64 a3_0, .int .i64 a3_1, .int .i64 a3_2, .int .i64 a3_3] 27 (0, 0))) := ⟨by rw [← hq_]; exact (by exact zk0 E2)⟩; have n3_ : Aside0 (wc.heap[G1]? = some (.cells #[.int .i64 0, .int .i64 0, .slice none 0 0] 24 (0, 0))) := ⟨by rw [← hq_]; exact (by exact zk0 E3)⟩; have n4_ : Aside0 (Below w.heap.size w wc) := ⟨by rw [← hq_]; exact (by exact zb0 HB)⟩; clear E0 E1 E2 E3 HB hq_; have E0 := n0_; have E1 := n1_; have E2 := n2_; have E3 := n3_; have HB := n4_; clear n0_ n1_ n2_ n3_ n4_)); have E4z := Y9.out; have E4A := Y8.out; have E4B := Z2.out; have E4C := Z3.out; have E4D := V5.out; have E4E := V6.out; obtain ⟨E0H, E0I, E0J, E0K, E0L, E0M, E0N, E0O, E0P, E0Q, E0R, E0S⟩ := zq6 E1) | ((with_reducible refine gate_callee (f := 26) rfl ?_); refine goesL_ (some 43) rfl rfl Try.func26 (by kernel_rfl) rfl #[.agg #[.int .i64 a1_0, .int .i64 a1_1, .int .i64 a1_2, .int .i64 a1_3, .int .i64 a1_4, .int .i64 a1_5]] rfl (by (try simp only [List.map_toArray, List.map_cons, List.map_nil]); first | done | rfl | (simp only [List.length_drop, List.length_take]; rfl)) ?_; (with_reducible refine (affine_Inverse.calls kj8 a1_0 a1_1 a1_2 a1_3 a1_4 a1_5 t254 t255 t256 t257 t258 t259 t260 _ A28.out).mono ?_); rintro e w34 ⟨rfl, hb⟩; refine ⟨_, rfl, ?_⟩; replace E0 := zk E0 hb; replace E1 := zk E1 hb; replace E2 := zk E2 hb; replace E3 := zk E3 hb; replace HB := zb HB hb; (try clear hb); (try clear hb2); (try clear hk); (try clear hi)) | ((with_reducible refine gate_dst (N := 11) rfl ?_); refine box_event ?hg (N := 11) ?hd (cs := #[.int .i64 0, .int .i64 0, .int .i64 0, .int .i64 0, .int .i64 0, .int .i64 0]) (t := 32) ?hr ?_; (case hd => rfl); (case hg => rfl); (case hr => first | (go_simp; done) | (go_simp; rfl)); intro Y6 hg w35 hbox hb; have E4F := zg HB hg; have E1D := zg HB hg; have J5 := zn E0 hg; have E0T := zn' E0 hg; have E0u := zn E1 hg; have E1E := zn' E1 hg; have J6 := zn E2 hg; have E0U := zn' E2 hg; have Z4 := zn E3 hg; have E0v := zn' E3 hg; have n0_ := Aside0.mk (hbox); replace E0 := zk E0 hb; replace E1 := zk E1 hb; replace E2 := zk E2 hb; replace E3 := zk E3 hb; replace HB := zb HB hb; have E6 := n0_; clear n0_; clear hb hbox hg; have E4G := E0T.out; have E4H := J5.out; have E4I := E1E.out; have E4J := E0u.out; have E4K := E0U.out; have E4L := J6.out; have E4M := E0v.out; have E4N := Z4.out; obtain ⟨E0V, E0W, E0X, E0Y, E0Z, E1a, E1b, E1c, E1d, E1e, E1f, E1g⟩ := zq6 E6))
   (try simp only [Act.put, sA, sB, sC])
   go_cut [51] (fun v51 wc => ∃ (kq : Nat) (x51_28 : Bool), v51 = .bool x51_28 ∧ Aside0 (sample_Draw.j1 kq a2 t260 x51_28 a0_0 a0_1 l0_2 a3_0 a3_1 a3_2 a3_3 t254 t255 t256 t257 t258 t259 = some (r1, r2, r3, r4)) ∧ Aside0 (kq ≤ kj8) ∧ Aside0 (wc.heap[G8]? = some (.cells #[.int .i64 a0_0, .int .i64 a0_1, (.slice A0_2 l0_2.length c0_2)] 24 (0, 0))) ∧ Aside0 (wc.heap[G9]? = some (.cells #[.int .i64 a1_0, .int .i64 a1_1, .int .i64 a1_2, .int .i64 a1_3, .int .i64 a1_4, .int .i64 a1_5] 32 (0, 0))) ∧ Aside0 (wc.heap[V0]? = some (.cells #[.int .i64 a3_0, .int .i64 a3_1, .int .i64 a3_2, .int .i64 a3_3] 27 (0, 0))) ∧ Aside0 (wc.heap[G1]? = some (.cells #[.int .i64 0, .int .i64 0, (.slice none 0 0)] 24 (0, 0))) ∧ Aside0 (wc.heap[Y6]? = some (.cells #[.int .i64 t254, .int .i64 t255, .int .i64 t256, .int .i64 t257, .int .i64 t258, .int .i64 t259] 32 (0, 0))) ∧ Aside0 (Below w.heap.size w wc))
   case first =>
    have H := HC29.out
    clear HC29
    by_cases c41 : t260 = 0
    ·rw [if_pos c41] at H
     have V9 : (t260 == 0) = true := beq_iff_eq.mpr c41
     have E0w : (t260 != 0) = false := bne_eq_false_iff_eq.mpr c41
     clear c41
     (first | rw [V9] | (simp only [i64_w, i32_w]; rw [V9]) | skip)
     replace H := Option.bind_eq_some_iff.mp H
     obtain ⟨t262, A420, H⟩ := H
     try dsimp only at H
     have A42 := Aside0.mk A420
     clear A420
     have H' := Aside0.mk H
     clear H
     obtain ⟨E1h, E1i, E1j, E1k, E1l, E1m, E1n, E1o⟩ := zq4 E2
     go_wp2_with (first | (go_at_call 12; (with_reducible refine (rect_Empty.calls a3_0 a3_1 a3_2 a3_3 t262 _ A42.out).mono ?_); rintro e w44 ⟨rfl, hb⟩; have n0_ := Aside0.mk (blk_below (g := Y6) (o := .cells #[.int .i64 t254, .int .i64 t255, .int .i64 t256, .int .i64 t257, .int .i64 t258, .int .i64 t259] 32 (0, 0)) (by exact zp E6 rfl) hb); have n1_ := Aside0.mk (below_step (by exact zbo HB E1D) hb); replace E0 := zfk E0 J5 hb; replace E1 := zfk E1 E0u hb; replace E2 := zfk E2 J6 hb; replace E3 := zfk E3 Z4 hb; clear E6; clear HB; have E6 := n0_; have HB := n1_; clear n0_ n1_; (try clear hb)))
     go_meet
     case rel => exact ⟨_, (t262), (by first | rfl | (simp; done) | (simp [*]; done)), H', ⟨by have := HJ8.out; first | omega | exact Nat.le_refl _⟩, ⟨by exact zk0 E0⟩, ⟨by exact zk0 E1⟩, ⟨by exact zk0 E2⟩, ⟨by exact zk0 E3⟩, ⟨by exact zk0 E6⟩, ⟨by exact zb0 HB⟩⟩
    rw [if_neg c41] at H
    have V9 : (t260 == 0) = false := beq_eq_false_iff_ne.mpr c41
    have E0w : (t260 != 0) = true := bne_iff_ne.mpr c41
    (first | rw [V9] | (simp only [i64_w, i32_w]; rw [V9]) | skip)
    have H' := Aside0.mk H
    clear H
    go_wp2
    go_meet
    case rel => exact ⟨_, (true), (by first | rfl | (simp; done) | (simp [*]; done)), H', ⟨by have := HJ8.out; first | omega | exact Nat.le_refl _⟩, ⟨by exact zf E0 J5⟩, ⟨by exact zf E1 E0u⟩, ⟨by exact zf E2 J6⟩, ⟨by exact zf E3 Z4⟩, ⟨by exact zp E6 rfl⟩, ⟨by exact zbo HB E1D⟩⟩
   case rest =>
    clear HC29
    try clear c1
    try clear c2
    try clear p2
    try clear c3
    try clear q3
    try clear c4
    try clear q4
    try clear c6
    try clear J3
    try clear J4
    try clear q6
    try clear c8
    try clear c9
    try clear c11
    try clear c18
    try clear V7
    try clear c21
    try clear c22
    try clear c23
    try clear c24
    try clear c25
    try clear c26
    try clear c27
    try clear c30
    try clear c31
    try clear c32
    try clear c36
    try clear c37
    try clear c38
    try clear c39
    try clear c41
    try clear V9
    try clear E0w
    try clear Q0
    try clear Q1
    try clear Q2
    try clear Q6
    try clear Q7
    try clear Q8
    try clear Q9
    try clear E0e
    try clear E0f
    try clear E0g
    try clear E0h
    try clear E0m
    try clear E0n
    try clear E0o
    try clear E0p
    try clear E0B
    try clear E0C
    try clear E0D
    try clear E0H
    try clear E0I
    try clear E0J
    try clear E0K
    try clear E0L
    try clear E0M
    try clear E0V
    try clear E0W
    try clear E0X
    try clear E0Y
    try clear E0Z
    try clear E1a
    try clear E1h
    try clear E1i
    try clear E1j
    try clear E1k
    try clear Q3
    try clear Q4
    try clear Q5
    try clear E0a
    try clear E0b
    try clear E0c
    try clear E0d
    try clear E0i
    try clear E0j
    try clear E0k
    try clear E0l
    try clear E0q
    try clear E0r
    try clear E0s
    try clear E0t
    try clear E0E
    try clear E0F
    try clear E0G
    try clear E0N
    try clear E0O
    try clear E0P
    try clear E0Q
    try clear E0R
    try clear E0S
    try clear E1b
    try clear E1c
    try clear E1d
    try clear E1e
    try clear E1f
    try clear E1g
    try clear E1l
    try clear E1m
    try clear E1n
    try clear E1o
    try clear p2
    try clear q3
    try clear q4
    obtain ⟨kq, x51_28, rfl, HA, HJ28, E0, E1, E2, E3, E6, HB⟩ := hcut
    cases kq with
    | zero => exact absurd HA.out (by simp [sample_Draw.j1])
    | succ kj28 =>
     have H := HA.out
     clear HA
     simp only [sample_Draw.j1] at H
     by_cases c45 : x51_28 = true
     ·subst c45
      rw [if_pos rfl] at H
      simp only [Option.some.injEq, Prod.mk.injEq] at H
      obtain ⟨rfl, rfl, rfl, rfl⟩ := H
      have E4O := V4.out
      have E4P := V3.out
      have E4Q := V6.out
      have E4R := V5.out
      have E4S := V2.out
      have E4T := V1.out
      have E4U := Z4.out
      have E4V := E0v.out
      obtain ⟨E1F, E1G, E1H, E1I, E1J, E1K⟩ := zq3 E3
      go_wp2
      refine bodyPost_ret (results_ct rfl _ _ G1 24 #[.int .i64 0, .int .i64 0, .slice none 0 0] (0, 0) _ rfl (by exact zp E3 rfl) Try.underlying24 rfl (by kernel_rfl)) rfl ?_
      exact ⟨_, by first | rfl | (simp [errW_none, errW_some] <;> rfl) | (simp [*, errW_none, errW_some] <;> rfl), by first | exact Kd.R_nil _ _ _ _ _ | exact Kd.N_nil _ _ _ _ _ | exact Kd.V_nil _ _ _ _ _ | exact Kd.Q_nil _ _ _ _ _ | exact Kd.S_nil _ _ _ _ _, by exact zbo HB V8⟩
     replace c45 := Bool.eq_false_iff.mpr c45
     subst c45
     rw [if_neg (show ¬ (false = true) by decide)] at H
     have H' := Aside0.mk H
     clear H
     have E4W := Y8.out
     have E4X := Y9.out
     have E4Y := Z0.out
     have E4Z := Z1.out
     have E5a := V3.out
     have E5b := V4.out
     have E5c := J5.out
     have E5d := E0T.out
     obtain ⟨E1L, E1M, E1N, E1O, E1P, E1Q⟩ := zq3 E0
     go_wp2_with (first | ((with_reducible refine gate_dst (N := 13) rfl ?_); refine box_event ?hg (N := 13) ?hd (cs := #[.int .i64 0, .int .i64 0, .slice none 0 0, .bool false]) (t := 60) ?hr ?_; (case hd => rfl); (case hg => rfl); (case hr => first | (go_simp; done) | (go_simp; rfl)); intro G5 hg w56 hbox hb; have E5e := zg HB hg; have E1p := zg HB hg; have E0x := zn E0 hg; have E2N := zn' E0 hg; have E0y := zn E1 hg; have E2O := zn' E1 hg; have J7 := zn E2 hg; have E1R := zn' E2 hg; have J8 := zn E3 hg; have E1S := zn' E3 hg; have J9 := zn E6 hg; have E1T := zn' E6 hg; have n0_ := Aside0.mk (hbox); replace E0 := zk E0 hb; replace E1 := zk E1 hb; replace E2 := zk E2 hb; replace E3 := zk E3 hb; replace E6 := zk E6 hb; replace HB := zb HB hb; have E4 := n0_; clear n0_; clear hb hbox hg; have E5f := E2N.out; have E5g := E0x.out; have E5h := E2O.out; have E5i := E0y.out; have E5j := E1R.out; have E5k := J7.out; have E5l := E1S.out; have E5m := J8.out; have E5n := E1T.out; have E5o := J9.out; obtain ⟨E1U, E1V, E1W, E1X, E1Y, E1Z, E2a, E2b⟩ := zq4 E4; have E5p := Z3.out; have E5q := Z2.out; have E5r := V1.out; have E5s := V2.out; have E5t := J6.out; have E5u := E0U.out; obtain ⟨E2c, E2d, E2e, E2f, E2g, E2h, E2i, E2j⟩ := zq4 E2) | ((with_reducible refine gate_dst (N := 14) rfl ?_); refine box_event ?hg (N := 14) ?hd (cs := #[.int .i64 0, .int .i64 0, .slice none 0 0]) (t := 24) ?hr ?_; (case hd => rfl); (case hg => rfl); (case hr => first | (go_simp; done) | (go_simp; rfl)); intro G0 hg w67 hbox hb; have n0_ := Aside0.mk (blk_below (g := G5) (o := .cells #[.int .i64 a0_0, .int .i64 a0_1, .slice A0_2 l0_2.length c0_2, .bool false] 60 (0, 0)) (by exact zp E4 rfl) hb); have n1_ := Aside0.mk (below_step (by exact zbo HB E1p) hb); have n2_ := Aside0.mk (hbox); have n3_ := Aside0.mk ((by rw [hg]; exact (below_size (by exact zbo HB E1p)) : w.heap.size ≤ G0)); have n4_ := Aside0.mk ((by rw [hg]; exact (below_size (by exact zbo HB E1p)) : w.heap.size ≤ G0)); have n5_ := Aside0.mk ((by rw [hg]; exact Nat.ne_of_lt (blk_lt (zf E0 E0x)) : G8 ≠ G0)); have n6_ := Aside0.mk ((by rw [hg]; exact Nat.ne_of_gt (blk_lt (zf E0 E0x)) : G0 ≠ G8)); have n7_ := Aside0.mk ((by rw [hg]; exact Nat.ne_of_lt (blk_lt (zf E1 E0y)) : G9 ≠ G0)); have n8_ := Aside0.mk ((by rw [hg]; exact Nat.ne_of_gt (blk_lt (zf E1 E0y)) : G0 ≠ G9)); have n9_ := Aside0.mk ((by rw [hg]; exact Nat.ne_of_lt (blk_lt (zf E2 J7)) : V0 ≠ G0)); have n10_ := Aside0.mk ((by rw [hg]; exact Nat.ne_of_gt (blk_lt (zf E2 J7)) : G0 ≠ V0)); have n11_ := Aside0.mk ((by rw [hg]; exact Nat.ne_of_lt (blk_lt (zf E3 J8)) : G1 ≠ G0)); have n12_ := Aside0.mk ((by rw [hg]; exact Nat.ne_of_gt (blk_lt (zf E3 J8)) : G0 ≠ G1)); have n13_ := Aside0.mk ((by rw [hg]; exact Nat.ne_of_lt (blk_lt (zf E6 J9)) : Y6 ≠ G0)); have n14_ := Aside0.mk ((by rw [hg]; exact Nat.ne_of_gt (blk_lt (zf E6 J9)) : G0 ≠ Y6)); have n15_ := Aside0.mk ((by rw [hg]; exact Nat.ne_of_lt (blk_lt (g := G5) (o := .cells #[.int .i64 a0_0, .int .i64 a0_1, .slice A0_2 l0_2.length c0_2, .bool false] 60 (0, 0)) (by exact zp E4 rfl)) : G5 ≠ G0)); have n16_ := Aside0.mk ((by rw [hg]; exact Nat.ne_of_gt (blk_lt (g := G5) (o := .cells #[.int .i64 a0_0, .int .i64 a0_1, .slice A0_2 l0_2.length c0_2, .bool false] 60 (0, 0)) (by exact zp E4 rfl)) : G0 ≠ G5)); replace E0 := zfk E0 E0x hb; replace E1 := zfk E1 E0y hb; replace E2 := zfk E2 J7 hb; replace E3 := zfk E3 J8 hb; replace E6 := zfk E6 J9 hb; clear E4; clear HB; have E4 := n0_; have HB := n1_; have E5 := n2_; have E5v := n3_; have E2k := n4_; have L0 := n5_; have E1q := n6_; have L1 := n7_; have E1r := n8_; have Z5 := n9_; have E0z := n10_; have L2 := n11_; have E1s := n12_; have Z6 := n13_; have E0A := n14_; have L3 := n15_; have E1t := n16_; clear n0_ n1_ n2_ n3_ n4_ n5_ n6_ n7_ n8_ n9_ n10_ n11_ n12_ n13_ n14_ n15_ n16_; clear hb hbox hg; have E5w := E1q.out; have E5x := L0.out; have E5y := E1r.out; have E5z := L1.out; have E5A := E0z.out; have E5B := Z5.out; have E5C := E1s.out; have E5D := L2.out; have E5E := E0A.out; have E5F := Z6.out; have E5G := E1t.out; have E5H := L3.out; obtain ⟨E2l, E2m, E2n, E2o, E2p, E2q⟩ := zq3 E5; obtain ⟨E2r, E2s, E2t, E2u, E2v, E2w, E2x, E2y⟩ := zq4 E2))
     (try simp only [Act.put, sA, sB, sC])
     go_loopg [63] kj28 (fun kq v63 w' => ∃ (x63_3 : Int) (x265002_3 : List (S37)) (u265002 : Value), v63 = .int .i64 x63_3 ∧ Aside0 (sample_Draw.l0 kq a2 a3_3 x63_3 a3_0 a3_1 a3_2 a3_3 t254 t255 t256 t257 t258 t259 a0_0 a0_1 l0_2 false a3_2 a3_3 x265002_3 = some (r1, r2, r3, r4)) ∧ Aside0 (kq ≤ kj28) ∧ Aside0 (Kd.R k37 37 w' w.heap.size (fun _ => True) u265002 x265002_3) ∧ Aside0 (w'.heap[G8]? = some (.cells #[.int .i64 a0_0, .int .i64 a0_1, (.slice A0_2 l0_2.length c0_2)] 24 (0, 0))) ∧ Aside0 (w'.heap[G9]? = some (.cells #[.int .i64 a1_0, .int .i64 a1_1, .int .i64 a1_2, .int .i64 a1_3, .int .i64 a1_4, .int .i64 a1_5] 32 (0, 0))) ∧ Aside0 (w'.heap[V0]? = some (.cells #[.int .i64 a3_0, .int .i64 a3_1, .int .i64 a3_2, .int .i64 a3_3] 27 (0, 0))) ∧ Aside0 (w'.heap[G1]? = some (.cells #[.int .i64 0, .int .i64 0, (.slice none 0 0)] 24 (0, 0))) ∧ Aside0 (w'.heap[Y6]? = some (.cells #[.int .i64 t254, .int .i64 t255, .int .i64 t256, .int .i64 t257, .int .i64 t258, .int .i64 t259] 32 (0, 0))) ∧ Aside0 (w'.heap[G5]? = some (.cells #[.int .i64 a0_0, .int .i64 a0_1, (.slice A0_2 l0_2.length c0_2), .bool false] 60 (0, 0))) ∧ Aside0 (w'.heap[G0]? = some (.cells #[.int .i64 a3_2, .int .i64 a3_3, u265002] 24 (0, 0))) ∧ Aside0 (Below w.heap.size w w'))
     case atStart => exact ⟨(0), (([] : List (S37))), (.slice none 0 0), (by first | rfl | (simp; done) | (simp [*]; done)), H', ⟨Nat.le_refl _⟩, ⟨by first | exact Kd.R_nil _ _ _ _ _ | exact Kd.N_nil _ _ _ _ _ | exact Kd.V_nil _ _ _ _ _ | exact Kd.Q_nil _ _ _ _ _ | exact Kd.S_nil _ _ _ _ _⟩, ⟨by exact zf E0 L0⟩, ⟨by exact zf E1 L1⟩, ⟨by exact zf E2 Z5⟩, ⟨by exact zf E3 L2⟩, ⟨by exact zf E6 Z6⟩, ⟨by exact zf E4 L3⟩, ⟨by exact zp E5 rfl⟩, ⟨by exact zbo HB E2k⟩⟩
     case round =>
      clear H'
      try clear c1
      try clear c2
      try clear p2
      try clear c3
      try clear q3
      try clear c4
      try clear q4
      try clear c5
      try clear c6
      try clear J3
      try clear J4
      try clear q6
      try clear c7
      try clear c8
      try clear c9
      try clear c11
      try clear c18
      try clear V7
      try clear c21
      try clear c22
      try clear c23
      try clear c24
      try clear c25
      try clear c26
      try clear c27
      try clear c30
      try clear c31
      try clear c32
      try clear c36
      try clear c37
      try clear c38
      try clear c39
      try clear c41
      try clear V9
      try clear E0w
      try clear c45
      try clear c46
      try clear c47
      try clear c48
      try clear c49
      try clear c51
      try clear c52
      try clear c53
      try clear c54
      try clear c57
      try clear c58
      try clear c59
      try clear c60
      try clear c61
      try clear c63
      try clear c64
      try clear c65
      try clear c68
      try clear c69
      try clear c70
      try clear c71
      try clear c72
      try clear c73
      try clear Q0
      try clear Q1
      try clear Q2
      try clear Q6
      try clear Q7
      try clear Q8
      try clear Q9
      try clear E0e
      try clear E0f
      try clear E0g
      try clear E0h
      try clear E0m
      try clear E0n
      try clear E0o
      try clear E0p
      try clear E0B
      try clear E0C
      try clear E0D
      try clear E0H
      try clear E0I
      try clear E0J
      try clear E0K
      try clear E0L
      try clear E0M
      try clear E0V
      try clear E0W
      try clear E0X
      try clear E0Y
      try clear E0Z
      try clear E1a
      try clear E1h
      try clear E1i
      try clear E1j
      try clear E1k
      try clear E1F
      try clear E1G
      try clear E1H
      try clear E1L
      try clear E1M
      try clear E1N
      try clear E1U
      try clear E1V
      try clear E1W
      try clear E1X
      try clear E2c
      try clear E2d
      try clear E2e
      try clear E2f
      try clear E2l
      try clear E2m
      try clear E2n
      try clear E2r
      try clear E2s
      try clear E2t
      try clear E2u
      try clear Q3
      try clear Q4
      try clear Q5
      try clear E0a
      try clear E0b
      try clear E0c
      try clear E0d
      try clear E0i
      try clear E0j
      try clear E0k
      try clear E0l
      try clear E0q
      try clear E0r
      try clear E0s
      try clear E0t
      try clear E0E
      try clear E0F
      try clear E0G
      try clear E0N
      try clear E0O
      try clear E0P
      try clear E0Q
      try clear E0R
      try clear E0S
      try clear E1b
      try clear E1c
      try clear E1d
      try clear E1e
      try clear E1f
      try clear E1g
      try clear E1l
      try clear E1m
      try clear E1n
      try clear E1o
      try clear E1I
      try clear E1J
      try clear E1K
      try clear E1O
      try clear E1P
      try clear E1Q
      try clear E1Y
      try clear E1Z
      try clear E2a
      try clear E2b
      try clear E2g
      try clear E2h
      try clear E2i
      try clear E2j
      try clear E2o
      try clear E2p
      try clear E2q
      try clear E2v
      try clear E2w
      try clear E2x
      try clear E2y
      try clear p2
      try clear q3
      try clear q4
      try clear q6
      obtain ⟨x63_3, x265002_3, u265002, rfl, HA, HK3, E7, E0, E1, E2, E3, E6, E4, E5, HB⟩ := hrel
      cases gk with
      | zero => exact absurd HA.out (by simp [sample_Draw.l0])
      | succ k3 =>
       have H := HA.out
       clear HA
       simp only [sample_Draw.l0] at H
       by_cases c76 : x63_3 < a3_3
       rotate_left
       ·rw [if_neg c76] at H
        have E2z : decide (x63_3 < a3_3) = false := decide_eq_false c76
        clear c76
        simp only [Option.some.injEq, Prod.mk.injEq] at H
        obtain ⟨rfl, rfl, rfl, rfl⟩ := H
        have E5I := E1q.out
        have E5J := L0.out
        have E5K := E1r.out
        have E5L := L1.out
        have E5M := E0z.out
        have E5N := Z5.out
        have E5O := E1s.out
        have E5P := L2.out
        have E5Q := E0A.out
        have E5R := Z6.out
        have E5S := E1t.out
        have E5T := L3.out
        obtain ⟨E5U, E5V, E5W, E5X, E5Y, E5Z⟩ := zq3 E5
        have E6a := V4.out
        have E6b := V3.out
        have E6c := V6.out
        have E6d := V5.out
        have E6e := V2.out
        have E6f := V1.out
        have E6g := Z4.out
        have E6h := E0v.out
        have E6i := J8.out
        have E6j := E1S.out
        obtain ⟨E6k, E6l, E6m, E6n, E6o, E6p⟩ := zq3 E3
        obtain ⟨Ao128, co128, eo128⟩ := Kd.R_slice E7.out
        subst eo128
        go_wp2
        refine bodyPost_ret (results_ct rfl _ _ G1 24 #[.int .i64 a3_2, .int .i64 a3_3, .slice Ao128 x265002_3.length co128] (0, 0) _ rfl (by exact zp E3 rfl) Try.underlying24 rfl (by kernel_rfl)) rfl ?_
        exact ⟨_, by first | rfl | (simp [errW_none, errW_some] <;> rfl) | (simp [*, errW_none, errW_some] <;> rfl), by exact zro E7 E3 (by decide), by exact zbo HB V8⟩
       rw [if_pos c76] at H
       have E2z : decide (x63_3 < a3_3) = true := decide_eq_true c76
       clear c76
       have H' := Aside0.mk H
       clear H
       obtain ⟨E2P, E2Q, E2R, E2S, E2T, E2U, E2V, E2W⟩ := zq4 E2
       go_wp2
       go_loopg [68] k3 (fun kq v68 w' => ∃ (x68_4 : Int) (x265002_4 : List (S37)) (u265002 : Value), v68 = .int .i64 x68_4 ∧ Aside0 (sample_Draw.l1 kq a2 x63_3 a3_3 x63_3 a3_2 x68_4 a3_0 a3_1 a3_2 a3_3 t254 t255 t256 t257 t258 t259 a0_0 a0_1 l0_2 false a3_2 a3_3 x265002_4 = some (r1, r2, r3, r4)) ∧ Aside0 (kq ≤ k3) ∧ Aside0 (Kd.R k37 37 w' w.heap.size (fun _ => True) u265002 x265002_4) ∧ Aside0 (w'.heap[G8]? = some (.cells #[.int .i64 a0_0, .int .i64 a0_1, (.slice A0_2 l0_2.length c0_2)] 24 (0, 0))) ∧ Aside0 (w'.heap[G9]? = some (.cells #[.int .i64 a1_0, .int .i64 a1_1, .int .i64 a1_2, .int .i64 a1_3, .int .i64 a1_4, .int .i64 a1_5] 32 (0, 0))) ∧ Aside0 (w'.heap[V0]? = some (.cells #[.int .i64 a3_0, .int .i64 a3_1, .int .i64 a3_2, .int .i64 a3_3] 27 (0, 0))) ∧ Aside0 (w'.heap[G1]? = some (.cells #[.int .i64 0, .int .i64 0, (.slice none 0 0)] 24 (0, 0))) ∧ Aside0 (w'.heap[Y6]? = some (.cells #[.int .i64 t254, .int .i64 t255, .int .i64 t256, .int .i64 t257, .int .i64 t258, .int .i64 t259] 32 (0, 0))) ∧ Aside0 (w'.heap[G5]? = some (.cells #[.int .i64 a0_0, .int .i64 a0_1, (.slice A0_2 l0_2.length c0_2), .bool false] 60 (0, 0))) ∧ Aside0 (w'.heap[G0]? = some (.cells #[.int .i64 a3_2, .int .i64 a3_3, u265002] 24 (0, 0))) ∧ Aside0 (Below w.heap.size w w'))
       case atStart => exact ⟨(0), (x265002_3), (u265002), (by first | rfl | (simp; done) | (simp [*]; done)), H', ⟨Nat.le_refl _⟩, ⟨by exact zr0 E7⟩, ⟨by exact zk0 E0⟩, ⟨by exact zk0 E1⟩, ⟨by exact zk0 E2⟩, ⟨by exact zk0 E3⟩, ⟨by exact zk0 E6⟩, ⟨by exact zk0 E4⟩, ⟨by exact zk0 E5⟩, ⟨by exact zb0 HB⟩⟩
       case round =>
        clear H'
        try clear c1
        try clear c2
        try clear p2
        try clear c3
        try clear q3
        try clear c4
        try clear q4
        try clear c5
        try clear c6
        try clear J3
        try clear J4
        try clear q6
        try clear c7
        try clear c8
        try clear c9
        try clear c11
        try clear c18
        try clear V7
        try clear c21
        try clear c22
        try clear c23
        try clear c24
        try clear c25
        try clear c26
        try clear c27
        try clear c30
        try clear c31
        try clear c32
        try clear c36
        try clear c37
        try clear c38
        try clear c39
        try clear c41
        try clear V9
        try clear E0w
        try clear c45
        try clear c46
        try clear c47
        try clear c48
        try clear c49
        try clear c51
        try clear c52
        try clear c53
        try clear c54
        try clear c57
        try clear c58
        try clear c59
        try clear c60
        try clear c61
        try clear c63
        try clear c64
        try clear c65
        try clear c68
        try clear c69
        try clear c70
        try clear c71
        try clear c72
        try clear c73
        try clear c76
        try clear E2z
        try clear Q0
        try clear Q1
        try clear Q2
        try clear Q6
        try clear Q7
        try clear Q8
        try clear Q9
        try clear E0e
        try clear E0f
        try clear E0g
        try clear E0h
        try clear E0m
        try clear E0n
        try clear E0o
        try clear E0p
        try clear E0B
        try clear E0C
        try clear E0D
        try clear E0H
        try clear E0I
        try clear E0J
        try clear E0K
        try clear E0L
        try clear E0M
        try clear E0V
        try clear E0W
        try clear E0X
        try clear E0Y
        try clear E0Z
        try clear E1a
        try clear E1h
        try clear E1i
        try clear E1j
        try clear E1k
        try clear E1F
        try clear E1G
        try clear E1H
        try clear E1L
        try clear E1M
        try clear E1N
        try clear E1U
        try clear E1V
        try clear E1W
        try clear E1X
        try clear E2c
        try clear E2d
        try clear E2e
        try clear E2f
        try clear E2l
        try clear E2m
        try clear E2n
        try clear E2r
        try clear E2s
        try clear E2t
        try clear E2u
        try clear E2P
        try clear E2Q
        try clear E2R
        try clear E2S
        try clear Q3
        try clear Q4
        try clear Q5
        try clear E0a
        try clear E0b
        try clear E0c
        try clear E0d
        try clear E0i
        try clear E0j
        try clear E0k
        try clear E0l
        try clear E0q
        try clear E0r
        try clear E0s
        try clear E0t
        try clear E0E
        try clear E0F
        try clear E0G
        try clear E0N
        try clear E0O
        try clear E0P
        try clear E0Q
        try clear E0R
        try clear E0S
        try clear E1b
        try clear E1c
        try clear E1d
        try clear E1e
        try clear E1f
        try clear E1g
        try clear E1l
        try clear E1m
        try clear E1n
        try clear E1o
        try clear E1I
        try clear E1J
        try clear E1K
        try clear E1O
        try clear E1P
        try clear E1Q
        try clear E1Y
        try clear E1Z
        try clear E2a
        try clear E2b
        try clear E2g
        try clear E2h
        try clear E2i
        try clear E2j
        try clear E2o
        try clear E2p
        try clear E2q
        try clear E2v
        try clear E2w
        try clear E2x
        try clear E2y
        try clear E2T
        try clear E2U
        try clear E2V
        try clear E2W
        try clear p2
        try clear q3
        try clear q4
        try clear q6
        obtain ⟨x68_4, x265002_4, u265002, rfl, HA, HK4, E7, E0, E1, E2, E3, E6, E4, E5, HB⟩ := hrel
        cases gk with
        | zero => exact absurd HA.out (by simp [sample_Draw.l1])
        | succ k4 =>
         have H := HA.out
         clear HA
         simp only [sample_Draw.l1] at H
         by_cases c78 : x68_4 < a3_2
         rotate_left
         ·rw [if_neg c78] at H
          have E2X : decide (x68_4 < a3_2) = false := decide_eq_false c78
          clear c78
          have H' := Aside0.mk H
          clear H
          go_wp2
          go_roundg k4
          case measure => have := HJ8.out; have := HJ28.out; have := HK3.out; have := HK4.out; omega
          case rel => exact ⟨(wrap64 (x63_3 + 1)), (x265002_4), (u265002), (by first | rfl | (simp; done) | (simp [*]; done)), H', ⟨by have := HJ8.out; have := HJ28.out; have := HK3.out; have := HK4.out; omega⟩, ⟨by exact zr0 E7⟩, ⟨by exact zk0 E0⟩, ⟨by exact zk0 E1⟩, ⟨by exact zk0 E2⟩, ⟨by exact zk0 E3⟩, ⟨by exact zk0 E6⟩, ⟨by exact zk0 E4⟩, ⟨by exact zk0 E5⟩, ⟨by exact zb0 HB⟩⟩
         rw [if_pos c78] at H
         have E2X : decide (x68_4 < a3_2) = true := decide_eq_true c78
         clear c78
         replace H := Option.bind_eq_some_iff.mp H
         obtain ⟨⟨t265, t266⟩, A790, H⟩ := H
         try dsimp only at H
         have A79 := Aside0.mk A790
         clear A790
         replace H := Option.bind_eq_some_iff.mp H
         obtain ⟨t268, A800, H⟩ := H
         try dsimp only at H
         have A80 := Aside0.mk A800
         clear A800
         replace H := Option.bind_eq_some_iff.mp H
         obtain ⟨t269, A810, H⟩ := H
         try dsimp only at H
         have A81 := Aside0.mk A810
         clear A810
         replace H := Option.bind_eq_some_iff.mp H
         obtain ⟨⟨t270, t271, t272, t273⟩, A820, H⟩ := H
         try dsimp only at H
         have A82 := Aside0.mk A820
         clear A820
         by_cases c83 : x265002_4.length < 4398046511104
         rotate_left
         ·rw [if_neg c83] at H
          exact absurd H (by simp)
         rw [if_pos c83] at H
         have LMc83 := Aside0.mk c83
         clear c83
         obtain ⟨y274, hy274⟩ : ∃ y_ : List (S37), y_ = (x265002_4 ++ [(⟨t270, t271, t272, t273⟩ : S37)]) := ⟨_, rfl⟩
         replace H : (sample_Draw.l1 k4 a2 x63_3 a3_3 x63_3 a3_2 (wrap64 (x68_4 + 1)) a3_0 a3_1 a3_2 a3_3 t254 t255 t256 t257 t258 t259 a0_0 a0_1 l0_2 false a3_2 a3_3 y274) = some (r1, r2, r3, r4) := by first | (rw [hy274]; with_reducible exact H) | (have H2_ := (Option.bind_some _ _).symm.trans H; rw [hy274]; with_reducible exact H2_) | (have H2_ := (Option.bind_some _ _).symm.trans H; with_reducible exact H2_) | with_reducible exact H | (rw [hy274]; exact H) | exact H
         have Ny274 := Aside0.mk hy274
         clear hy274
         have H' := Aside0.mk H
         clear H
         have E6q := E0T.out
         have E6r := J5.out
         have E6s := E1E.out
         have E6t := E0u.out
         have E6u := E0U.out
         have E6v := J6.out
         have E6w := E0v.out
         have E6x := Z4.out
         have E6y := J9.out
         have E6z := E1T.out
         have E6A := Z6.out
         have E6B := E0A.out
         obtain ⟨E6C, E6D, E6E, E6F, E6G, E6H, E6I, E6J, E6K, E6L, E6M, E6N⟩ := zq6 E6
         have E6O := Z1.out
         have E6P := Z0.out
         have E6Q := Z3.out
         have E6R := Z2.out
         have E6S := V1.out
         have E6T := V2.out
         have E6U := J7.out
         have E6V := E1R.out
         have E6W := Z5.out
         have E6X := E0z.out
         obtain ⟨E6Y, E6Z, E7a, E7b, E7c, E7d, E7e, E7f⟩ := zq4 E2
         try go_wp2_with (first | ((with_reducible refine gate_callee (f := 27) rfl ?_); refine goesL_ (some 85) rfl rfl Try.func27 (by kernel_rfl) rfl #[.agg #[.int .i64 t254, .int .i64 t255, .int .i64 t256, .int .i64 t257, .int .i64 t258, .int .i64 t259], .agg #[.int .i64 (wrap64 ((wrap64 ((wrap64 (a3_0 + x68_4)) * 65536)) + 32768)), .int .i64 (wrap64 ((wrap64 ((wrap64 (a3_1 + x63_3)) * 65536)) + 32768))]] rfl (by (try simp only [List.map_toArray, List.map_cons, List.map_nil]); first | done | rfl | (simp only [List.length_drop, List.length_take]; rfl)) ?_; (with_reducible refine (affine_Apply.calls k4 t254 t255 t256 t257 t258 t259 (wrap64 ((wrap64 ((wrap64 (a3_0 + x68_4)) * 65536)) + 32768)) (wrap64 ((wrap64 ((wrap64 (a3_1 + x63_3)) * 65536)) + 32768)) t265 t266 _ A79.out).mono ?_); rintro e w97 ⟨rfl, hb⟩; refine ⟨_, rfl, ?_⟩; replace E7 := zr E7 hb; replace E0 := zk E0 hb; replace E1 := zk E1 hb; replace E2 := zk E2 hb; replace E3 := zk E3 hb; replace E6 := zk E6 hb; replace E4 := zk E4 hb; replace E5 := zk E5 hb; replace HB := zb HB hb; (try clear hb)) | ((with_reducible refine gate_dst (N := 17) rfl ?_); refine box_event ?hg (N := 17) ?hd (cs := #[.int .i64 0, .int .i64 0]) (t := 54) ?hr ?_; (case hd => rfl); (case hg => rfl); (case hr => first | (go_simp; done) | (go_simp; rfl)); intro E9 hg w98 hbox hb; have E7g := zg HB hg; have E2Y := zg HB hg; have E2A := zn E0 hg; have E2Z := zn' E0 hg; have E2B := zn E1 hg; have E3a := zn' E1 hg; have E2C := zn E2 hg; have E3b := zn' E2 hg; have E2D := zn E3 hg; have E3c := zn' E3 hg; have E2E := zn E6 hg; have E3d := zn' E6 hg; have E2F := zn E4 hg; have E3e := zn' E4 hg; have E1u := zn E5 hg; have E2G := zn' E5 hg; have n0_ := Aside0.mk (hbox); replace E7 := zr E7 hb; replace E0 := zk E0 hb; replace E1 := zk E1 hb; replace E2 := zk E2 hb; replace E3 := zk E3 hb; replace E6 := zk E6 hb; replace E4 := zk E4 hb; replace E5 := zk E5 hb; replace HB := zb HB hb; have E8 := n0_; clear n0_; clear hb hbox hg; have E7h := E2Z.out; have E7i := E2A.out; have E7j := E3a.out; have E7k := E2B.out; have E7l := E3b.out; have E7m := E2C.out; have E7n := E3c.out; have E7o := E2D.out; have E7p := E3d.out; have E7q := E2E.out; have E7r := E3e.out; have E7s := E2F.out; have E7t := E2G.out; have E7u := E1u.out; obtain ⟨E7v, E7w, E7x, E7y⟩ := zq2 E8))
         have n0_ : Aside0 (Kd.R k37 37 ((w98.setCell ⟨E9, 0, none⟩ (.int .i64 t265)).setCell ⟨E9, 1, none⟩ (.int .i64 t266)) w.heap.size (fun _ => True) u265002 x265002_4) := ⟨by exact zro E7 E8 (by decide)⟩
         have n1_ : Aside0 (((w98.setCell ⟨E9, 0, none⟩ (.int .i64 t265)).setCell ⟨E9, 1, none⟩ (.int .i64 t266)).heap[G8]? = some (.cells #[.int .i64 a0_0, .int .i64 a0_1, .slice A0_2 l0_2.length c0_2] 24 (0, 0))) := ⟨by exact zf E0 E2A⟩
         have n2_ : Aside0 (((w98.setCell ⟨E9, 0, none⟩ (.int .i64 t265)).setCell ⟨E9, 1, none⟩ (.int .i64 t266)).heap[G9]? = some (.cells #[.int .i64 a1_0, .int .i64 a1_1, .int .i64 a1_2, .int .i64 a1_3, .int .i64 a1_4, .int .i64 a1_5] 32 (0, 0))) := ⟨by exact zf E1 E2B⟩
         have n3_ : Aside0 (((w98.setCell ⟨E9, 0, none⟩ (.int .i64 t265)).setCell ⟨E9, 1, none⟩ (.int .i64 t266)).heap[V0]? = some (.cells #[.int .i64 a3_0, .int .i64 a3_1, .int .i64 a3_2, .int .i64 a3_3] 27 (0, 0))) := ⟨by exact zf E2 E2C⟩
         have n4_ : Aside0 (((w98.setCell ⟨E9, 0, none⟩ (.int .i64 t265)).setCell ⟨E9, 1, none⟩ (.int .i64 t266)).heap[G1]? = some (.cells #[.int .i64 0, .int .i64 0, .slice none 0 0] 24 (0, 0))) := ⟨by exact zf E3 E2D⟩
         have n5_ : Aside0 (((w98.setCell ⟨E9, 0, none⟩ (.int .i64 t265)).setCell ⟨E9, 1, none⟩ (.int .i64 t266)).heap[Y6]? = some (.cells #[.int .i64 t254, .int .i64 t255, .int .i64 t256, .int .i64 t257, .int .i64 t258, .int .i64 t259] 32 (0, 0))) := ⟨by exact zf E6 E2E⟩
         have n6_ : Aside0 (((w98.setCell ⟨E9, 0, none⟩ (.int .i64 t265)).setCell ⟨E9, 1, none⟩ (.int .i64 t266)).heap[G5]? = some (.cells #[.int .i64 a0_0, .int .i64 a0_1, .slice A0_2 l0_2.length c0_2, .bool false] 60 (0, 0))) := ⟨by exact zf E4 E2F⟩
         have n7_ : Aside0 (((w98.setCell ⟨E9, 0, none⟩ (.int .i64 t265)).setCell ⟨E9, 1, none⟩ (.int .i64 t266)).heap[G0]? = some (.cells #[.int .i64 a3_2, .int .i64 a3_3, u265002] 24 (0, 0))) := ⟨by exact zf E5 E1u⟩
         have n8_ : Aside0 (((w98.setCell ⟨E9, 0, none⟩ (.int .i64 t265)).setCell ⟨E9, 1, none⟩ (.int .i64 t266)).heap[E9]? = some (.cells #[.int .i64 t265, .int .i64 t266] 54 (0, 0))) := ⟨by exact zp E8 rfl⟩
         have n9_ : Aside0 (Below w.heap.size w ((w98.setCell ⟨E9, 0, none⟩ (.int .i64 t265)).setCell ⟨E9, 1, none⟩ (.int .i64 t266))) := ⟨by exact zbo HB E2Y⟩
         (try clear E7)
         (try clear E0)
         (try clear E1)
         (try clear E2)
         (try clear E3)
         (try clear E6)
         (try clear E4)
         (try clear E5)
         (try clear E8)
         (try clear HB)
         generalize ((w98.setCell ⟨E9, 0, none⟩ (.int .i64 t265)).setCell ⟨E9, 1, none⟩ (.int .i64 t266)) = w107 at n0_ n1_ n2_ n3_ n4_ n5_ n6_ n7_ n8_ n9_ ⊢
         have E7 := n0_
         have E0 := n1_
         have E1 := n2_
         have E2 := n3_
         have E3 := n4_
         have E6 := n5_
         have E4 := n6_
         have E5 := n7_
         have E8 := n8_
         have HB := n9_
         clear n0_ n1_ n2_ n3_ n4_ n5_ n6_ n7_ n8_ n9_
         replace E7 := zrd E7
         replace E0 := zkd E0
         replace E1 := zkd E1
         replace E2 := zkd E2
         replace E3 := zkd E3
         replace E6 := zkd E6
         replace E4 := zkd E4
         replace E5 := zkd E5
         replace E8 := zkd E8
         replace HB := zbd HB
         refine start_ (n := 15) (S := fun w' => w'.cell? ⟨G0, 0, none⟩ = some (.int .i64 a3_2) ∧ w'.cell? ⟨G0, 1, none⟩ = some (.int .i64 a3_3) ∧ w'.cell? ⟨G0, 2, none⟩ = some (u265002) ∧ w'.cell? ⟨G5, 0, none⟩ = some (.int .i64 a0_0) ∧ w'.cell? ⟨G5, 1, none⟩ = some (.int .i64 a0_1) ∧ w'.cell? ⟨G5, 2, none⟩ = some (.slice A0_2 l0_2.length c0_2) ∧ w'.cell? ⟨G5, 3, none⟩ = some (.bool false) ∧ w'.cell? ⟨E9, 0, none⟩ = some (.int .i64 t265) ∧ w'.cell? ⟨E9, 1, none⟩ = some (.int .i64 t266)) (ds := [14]) (bs 15 0) (by kernel_rfl) rfl rfl ⟨(blk_cell E5.out 0).trans rfl, (blk_cell E5.out 1).trans rfl, (blk_cell E5.out 2).trans rfl, (blk_cell E4.out 0).trans rfl, (blk_cell E4.out 1).trans rfl, (blk_cell E4.out 2).trans rfl, (blk_cell E4.out 3).trans rfl, (blk_cell E8.out 0).trans rfl, (blk_cell E8.out 1).trans rfl⟩ (fun hHeld => ?_); refine with_tabW sample_Draw.tab22 sample_Draw.bits22 (fun HT_ HW_ => ?_)
         generalize w107.drew = w108 at E7 E0 E1 E2 E3 E6 E4 E5 E8 HB hHeld ⊢
         refine pure_ (i := 0) (N := some 86) (v := ?_) (a' := ?_) (bs 15 1) rfl rfl (any_of HT_.out (by kernel_rfl)) (fun _ _ _ h => h) (Or.inl ⟨by rfl, ?_⟩) ?_ ?_
         rotate_left
         ·intro w'
          go_simp
          with_reducible rfl
         rotate_left
         ·simp only [Act.put, sA, sB, sC, i64_w, i32_w]
          rfl
         refine pure_ (i := 3) (N := some 89) (v := ?_) (a' := ?_) (bs 15 9) rfl rfl (any_of HT_.out (by kernel_rfl)) (fun _ _ _ h => h) (Or.inl ⟨by rfl, ?_⟩) ?_ ?_
         rotate_left
         ·intro w'
          go_simp
          with_reducible rfl
         rotate_left
         ·simp only [Act.put, sA, sB, sC, i64_w, i32_w]
          rfl
         refine pure_ (i := 4) (N := some 90) (v := ?_) (a' := ?_) (bs 15 25) rfl rfl (any_of HT_.out (by kernel_rfl)) (fun _ _ _ h => h) (Or.inl ⟨by rfl, ?_⟩) ?_ ?_
         rotate_left
         ·intro w'
          go_simp
          with_reducible rfl
         rotate_left
         ·simp only [Act.put, sA, sB, sC, i64_w, i32_w]
          rfl
         refine pure_ (i := 7) (N := some 93) (v := ?_) (a' := ?_) (bs 15 153) rfl rfl (any_of HT_.out (by kernel_rfl)) (fun _ _ _ h => h) (Or.inl ⟨by rfl, ?_⟩) ?_ ?_
         rotate_left
         ·intro w'
          go_simp
          with_reducible rfl
         rotate_left
         ·simp only [Act.put, sA, sB, sC, i64_w, i32_w]
          rfl
         refine take_ (i := 1) (N := some 87) (v := ?_) (a' := ?_) (bs 15 155) rfl rfl (take_ofW HT_.out HW_.out (by kernel_rfl)) (fun _ _ _ h => h) (Or.inl ⟨by rfl, ?_⟩) hHeld ?_ ?_
         rotate_left
         ·rintro w' ⟨s0, s1, s2, s3, s4, s5, s6, s7, s8⟩
          go_simp
          with_reducible rfl
         rotate_left
         ·simp only [Act.put, sA, sB, sC, i64_w, i32_w]
          rfl
         refine take_ (i := 2) (N := some 88) (v := ?_) (a' := ?_) (bs 15 159) rfl rfl (take_ofW HT_.out HW_.out (by kernel_rfl)) (fun _ _ _ h => h) (Or.inl ⟨by rfl, ?_⟩) hHeld ?_ ?_
         rotate_left
         ·rintro w' ⟨s0, s1, s2, s3, s4, s5, s6, s7, s8⟩
          go_simp
          with_reducible rfl
         rotate_left
         ·simp only [Act.put, sA, sB, sC, i64_w, i32_w]
          rfl
         refine take_ (i := 5) (N := some 91) (v := ?_) (a' := ?_) (bs 15 191) rfl rfl (take_ofW HT_.out HW_.out (by kernel_rfl)) (fun _ _ _ h => h) (Or.inl ⟨by rfl, ?_⟩) hHeld ?_ ?_
         rotate_left
         ·rintro w' ⟨s0, s1, s2, s3, s4, s5, s6, s7, s8⟩
          go_simp
          with_reducible rfl
         rotate_left
         ·simp only [Act.put, sA, sB, sC, i64_w, i32_w]
          rfl
         refine take_ (i := 8) (N := some 94) (v := ?_) (a' := ?_) (bs 15 447) rfl rfl (take_ofW HT_.out HW_.out (by kernel_rfl)) (fun _ _ _ h => h) (Or.inl ⟨by rfl, ?_⟩) hHeld ?_ ?_
         rotate_left
         ·rintro w' ⟨s0, s1, s2, s3, s4, s5, s6, s7, s8⟩
          go_simp
          with_reducible rfl
         rotate_left
         ·simp only [Act.put, sA, sB, sC, i64_w, i32_w]
          rfl
         refine one_ (i := 6) (N := some 92) (bs 15 511) rfl rfl (one_of HT_.out (by kernel_rfl)) (by decide) (fun K hK => ?_)
         refine goes_ Try.func29 (by kernel_rfl) rfl #[.int .i64 t265] (by rfl) rfl rfl (by (try simp only [List.map_toArray, List.map_cons, List.map_nil]); first | done | rfl | (simp only [List.length_drop, List.length_take]; rfl)) ?_
         with_reducible refine (sample_limit.calls t265 t268 _ A80.out).mono ?_
         rintro e w109 ⟨rfl, hb⟩
         refine ⟨_, rfl, ?_⟩
         replace E7 := zr E7 hb
         replace E0 := zk E0 hb
         replace E1 := zk E1 hb
         replace E2 := zk E2 hb
         replace E3 := zk E3 hb
         replace E6 := zk E6 hb
         replace E4 := zk E4 hb
         replace E5 := zk E5 hb
         replace E8 := zk E8 hb
         replace HB := zb HB hb
         (try clear hb)
         (try clear hb2)
         (try clear hk)
         (try clear hi)
         refine hK.out _ _ ⟨(blk_cell E5.out 0).trans rfl, (blk_cell E5.out 1).trans rfl, (blk_cell E5.out 2).trans rfl, (blk_cell E4.out 0).trans rfl, (blk_cell E4.out 1).trans rfl, (blk_cell E4.out 2).trans rfl, (blk_cell E4.out 3).trans rfl, (blk_cell E8.out 0).trans rfl, (blk_cell E8.out 1).trans rfl⟩ (fun hHeld => ?_)
         clear hK K
         refine norm_ (a' := ?_) ?_ ?_
         rotate_left
         ·show Act.put _ (some 92) _ = _
          simp only [Act.put, sA, sB, sC, i64_w, i32_w]
          rfl
         refine one_ (i := 9) (N := some 95) (bs 15 1023) rfl rfl (one_of HT_.out (by kernel_rfl)) (by decide) (fun K hK => ?_)
         refine goes_ Try.func29 (by kernel_rfl) rfl #[.int .i64 t266] (by rfl) rfl rfl (by (try simp only [List.map_toArray, List.map_cons, List.map_nil]); first | done | rfl | (simp only [List.length_drop, List.length_take]; rfl)) ?_
         with_reducible refine (sample_limit.calls t266 t269 _ A81.out).mono ?_
         rintro e w110 ⟨rfl, hb⟩
         refine ⟨_, rfl, ?_⟩
         replace E7 := zr E7 hb
         replace E0 := zk E0 hb
         replace E1 := zk E1 hb
         replace E2 := zk E2 hb
         replace E3 := zk E3 hb
         replace E6 := zk E6 hb
         replace E4 := zk E4 hb
         replace E5 := zk E5 hb
         replace E8 := zk E8 hb
         replace HB := zb HB hb
         (try clear hb)
         (try clear hb2)
         (try clear hk)
         (try clear hi)
         refine hK.out _ _ ⟨(blk_cell E5.out 0).trans rfl, (blk_cell E5.out 1).trans rfl, (blk_cell E5.out 2).trans rfl, (blk_cell E4.out 0).trans rfl, (blk_cell E4.out 1).trans rfl, (blk_cell E4.out 2).trans rfl, (blk_cell E4.out 3).trans rfl, (blk_cell E8.out 0).trans rfl, (blk_cell E8.out 1).trans rfl⟩ (fun hHeld => ?_)
         clear hK K
         refine norm_ (a' := ?_) ?_ ?_
         rotate_left
         ·show Act.put _ (some 95) _ = _
          simp only [Act.put, sA, sB, sC, i64_w, i32_w]
          rfl
         refine one_ (i := 10) (N := some 96) (bs 15 2047) rfl rfl (one_of HT_.out (by kernel_rfl)) (by decide) (fun K hK => ?_)
         refine goes_ Try.func28 (by kernel_rfl) rfl #[.agg #[.int .i64 a0_0, .int .i64 a0_1, .slice A0_2 l0_2.length c0_2, .bool false], .int .i64 a2, .int .i64 t268, .int .i64 t269] (by rfl) rfl rfl (by (try simp only [List.map_toArray, List.map_cons, List.map_nil]); first | done | rfl | (simp only [List.length_drop, List.length_take]; rfl)) ?_
         with_reducible refine (sample_source_at.calls k4 a0_0 a0_1 _ _ l0_2 false a2 t268 t269 t270 t271 t272 t273 _ ?side1 ?side2 A82.out).mono ?_
         (case side1 => repeat (first | exact (Kd.C_below L8.out HB.out) | (with_reducible refine Kd.C_alloc ?_ _) | (with_reducible refine Kd.C_drewN ?_ _) | (with_reducible refine Kd.C_drew ?_)))
         (case side2 => exact L9.out)
         rintro e w111 ⟨rfl, hb⟩
         refine ⟨_, rfl, ?_⟩
         replace E7 := zr E7 hb
         replace E0 := zk E0 hb
         replace E1 := zk E1 hb
         replace E2 := zk E2 hb
         replace E3 := zk E3 hb
         replace E6 := zk E6 hb
         replace E4 := zk E4 hb
         replace E5 := zk E5 hb
         replace E8 := zk E8 hb
         replace HB := zb HB hb
         (try clear hb)
         (try clear hb2)
         (try clear hk)
         (try clear hi)
         refine hK.out _ _ ⟨(blk_cell E5.out 0).trans rfl, (blk_cell E5.out 1).trans rfl, (blk_cell E5.out 2).trans rfl, (blk_cell E4.out 0).trans rfl, (blk_cell E4.out 1).trans rfl, (blk_cell E4.out 2).trans rfl, (blk_cell E4.out 3).trans rfl, (blk_cell E8.out 0).trans rfl, (blk_cell E8.out 1).trans rfl⟩ (fun hHeld => ?_)
         clear hK K
         refine norm_ (a' := ?_) ?_ ?_
         rotate_left
         ·show Act.put _ (some 96) _ = _
          simp only [Act.put, sA, sB, sC, i64_w, i32_w]
          rfl
         refine one_ (i := 11) (N := some 97) (bs 15 4095) rfl rfl (one_of HT_.out (by kernel_rfl)) (by decide) (fun K hK => ?_)
         refine value_ (w1 := ?_) (v := ?_) (by rfl) rfl ?_ ?_
         rotate_left 2
         ·go_simp
          constructor
          ·rfl
          ·rfl
         refine hK.out _ _ ⟨(blk_cell (blk_alloc E5.out _) 0).trans rfl, (blk_cell (blk_alloc E5.out _) 1).trans rfl, (blk_cell (blk_alloc E5.out _) 2).trans rfl, (blk_cell (blk_alloc E4.out _) 0).trans rfl, (blk_cell (blk_alloc E4.out _) 1).trans rfl, (blk_cell (blk_alloc E4.out _) 2).trans rfl, (blk_cell (blk_alloc E4.out _) 3).trans rfl, (blk_cell (blk_alloc E8.out _) 0).trans rfl, (blk_cell (blk_alloc E8.out _) 1).trans rfl⟩ (fun hHeld => ?_)
         clear hK K
         refine norm_ (a' := ?_) ?_ ?_
         rotate_left
         ·show Act.put _ (some 97) _ = _
          simp only [Act.put, sA, sB, sC, i64_w, i32_w]
          rfl
         refine one_ (i := 12) (N := some 98) (bs 15 8191) rfl rfl (one_of HT_.out (by kernel_rfl)) (by decide) (fun K hK => ?_)
         refine Kd.R_append_step k37 (w0 := w) w.heap.size (by rfl) (.tmp 87) (.tmp 97) 22 37 (.agg #[(.int .i64 0), (.int .i64 0), (.int .i64 0), (.int .i64 0)]) 32 rfl Try.underlying22 info37 rfl (by decide) (by omega) u265002 x265002_4 (⟨t270, t271, t272, t273⟩ : S37) [.int .i64 t270, .int .i64 t271, .int .i64 t272, .int .i64 t273] (fun _ => True) (fun _ => False) rfl rfl ?aP (fun _ hk => hk.elim) ?aF ?aO ?aB ?aS ?aL ?_
         (case aP => exact k37_mkM _ _ _ (⟨t270, t271, t272, t273⟩ : S37))
         (case aB => exact (by exact zb0 HB))
         (case aF => exact (fun _ _ => trivial))
         (case aO => exact (by exact zr0 E7))
         (case aS => exact (below_size (by exact zb0 HB)))
         (case aL => have := LMc83.out; omega)
         intro v275 w112 ho hb hg hat
         rw [← Ny274.out] at ho
         have n0_ := Aside0.mk (blk_grown (zk0 E0) hg (Kd.R_ne E7.out E0.out (by decide)))
         have n1_ := Aside0.mk (blk_grown (zk0 E1) hg (Kd.R_ne E7.out E1.out (by decide)))
         have n2_ := Aside0.mk (blk_grown (zk0 E2) hg (Kd.R_ne E7.out E2.out (by decide)))
         have n3_ := Aside0.mk (blk_grown (zk0 E3) hg (Kd.R_ne E7.out E3.out (by decide)))
         have n4_ := Aside0.mk (blk_grown (zk0 E6) hg (Kd.R_ne E7.out E6.out (by decide)))
         have n5_ := Aside0.mk (blk_grown (zk0 E4) hg (Kd.R_ne E7.out E4.out (by decide)))
         have n6_ := Aside0.mk (blk_grown (zk0 E5) hg (Kd.R_ne E7.out E5.out (by decide)))
         have n7_ := Aside0.mk (blk_grown (zk0 E8) hg (Kd.R_ne E7.out E8.out (by decide)))
         have n8_ := Aside0.mk (hb)
         have n9_ := Aside0.mk (ho)
         clear E0
         clear E1
         clear E2
         clear E3
         clear E6
         clear E4
         clear E5
         clear E8
         clear HB
         clear E7
         have E0 := n0_
         have E1 := n1_
         have E2 := n2_
         have E3 := n3_
         have E6 := n4_
         have E4 := n5_
         have E5 := n6_
         have E8 := n7_
         have HB := n8_
         have HO276 := n9_
         clear n0_ n1_ n2_ n3_ n4_ n5_ n6_ n7_ n8_ n9_
         clear ho hb hg hat
         obtain ⟨Ao113, co113, eo113⟩ := Kd.R_slice HO276.out
         (first | subst eo113 | (injection eo113 with f1_ f2_ f3_; have f4_ := f1_.symm; have f5_ := f3_.symm; clear f1_ f2_ f3_; subst f4_; subst f5_))
         refine hK.out _ _ ⟨(blk_cell E5.out 0).trans rfl, (blk_cell E5.out 1).trans rfl, (blk_cell E5.out 2).trans rfl, (blk_cell E4.out 0).trans rfl, (blk_cell E4.out 1).trans rfl, (blk_cell E4.out 2).trans rfl, (blk_cell E4.out 3).trans rfl, (blk_cell E8.out 0).trans rfl, (blk_cell E8.out 1).trans rfl⟩ (fun hHeld => ?_)
         clear hK K
         refine norm_ (a' := ?_) ?_ ?_
         rotate_left
         ·show Act.put _ (some 98) _ = _
          simp only [Act.put, sA, sB, sC, i64_w, i32_w]
          rfl
         refine pure_ (i := 13) (N := some 99) (v := ?_) (a' := ?_) (bs 15 16383) rfl rfl (any_of HT_.out (by kernel_rfl)) (fun _ _ _ h => h) (Or.inl ⟨by rfl, ?_⟩) ?_ ?_
         rotate_left
         ·intro w'
          go_simp
          with_reducible rfl
         rotate_left
         ·simp only [Act.put, sA, sB, sC, i64_w, i32_w]
          rfl
         refine last_ (i := 14) (N := none) (bs 15 32767) rfl rfl (one_of HT_.out (by kernel_rfl)) (by decide) (fun K hK => ?_)
         have hs114 : w112.cell? ⟨G0, 2, none⟩ = some (u265002) := (blk_cell E5.out 2).trans rfl
         have hfs114 := blk_frozen E5.out 2
         have E7z := L0.out
         have E7A := L1.out
         have E7B := Z5.out
         have E7C := L2.out
         have E7D := Z6.out
         have E7E := L3.out
         have E7F := E2G.out
         have E7G := E1q.out
         have E7H := E1r.out
         have E7I := E0z.out
         have E7J := E1s.out
         have E7K := E0A.out
         have E7L := E1t.out
         have E7M := E1u.out
         refine skip_ (w1 := ?_) (by rfl) rfl ?_ ?_
         rotate_left
         ·go_simp
          rfl
         refine hK.out _ _ ?_
         clear hK K
         refine done_ (done_of HT_.out (by kernel_rfl)) ?_
         try go_wp2
         go_roundg k4
         case measure => have := HJ8.out; have := HJ28.out; have := HK3.out; have := HK4.out; omega
         case rel => exact ⟨(wrap64 (x68_4 + 1)), (y274), (.slice Ao113 y274.length co113), (by first | rfl | (simp; done) | (simp [*]; done)), H', ⟨by have := HJ8.out; have := HJ28.out; have := HK3.out; have := HK4.out; omega⟩, ⟨by exact zro HO276 E5 (by decide)⟩, ⟨by exact zf E0 L0⟩, ⟨by exact zf E1 L1⟩, ⟨by exact zf E2 Z5⟩, ⟨by exact zf E3 L2⟩, ⟨by exact zf E6 Z6⟩, ⟨by exact zf E4 L3⟩, ⟨by exact zp E5 rfl⟩, ⟨by exact zbo HB E2k⟩⟩
end Go.Proofs.Ytapdifpmijgkcaa.G
