/- Contracts of functions of the program, each as it is called: what it computes (.f), that it computes no less with more rounds (.mono), and that a call returns just that (.calls). No conditions but those that each contract names. Written by a program of this session (wip/gx.py over the kit's print). -/
import Derived.Test.YtmmncannibnklaaG0
import Derived.Test.YtmmncannibnklaaG1
import Derived.Test.YtmmncannibnklaaG8
import Derived.Test.YtmmncannibnklaaG9
import Derived.Test.YtmmncannibnklaaG11
namespace Go.Proofs.Ytmmncannibnklaa.G
open Go.RowKit Go.Proofs.YtmmncannibnklaaW.PrintWords Go.Proofs.YtmmncannibnklaaW.PrintLast Go.Proofs.YtmmncannibnklaaW.PrintMore
attribute [local go_sem] max2_int min2_int max_two min_two max_three min_three max_four min_four   -- for this text's walks alone
set_option linter.unusedVariables false
set_option linter.unusedSimpArgs false


/-! ### imageeditorlaw24_WandSoftens: function 7 -/
mutual
def imageeditorlaw24_WandSoftens.j0 : Nat → Int → Int → Bool → Int → Int → List (S37) → Int → Int → Int → Int → Int → Int → List Int → Int → Int → List Int → Option (Bool)
 | 0, _, _, _, _, _, _, _, _, _, _, _, _, _, _, _, _ => none
 | k + 1, x2, x3, x58, x671000, x671001, x671002, x672000, x672001, x672002, x672003, x679000, x679001, x679002, x687000, x687001, x687002 => if x58 = true then (some false) else (imageeditorlaw24_WandSoftens.l0 k x2 x3 (x671002.length : Int) 0 x671000 x671001 x671002 x672000 x672001 x672002 x672003 x679000 x679001 x679002 x687000 x687001 x687002)
def imageeditorlaw24_WandSoftens.l0 : Nat → Int → Int → Int → Int → Int → Int → List (S37) → Int → Int → Int → Int → Int → Int → List Int → Int → Int → List Int → Option (Bool)
 | 0, _, _, _, _, _, _, _, _, _, _, _, _, _, _, _, _, _ => none
 | k + 1, x2, x3, x61, x62, x671000, x671001, x671002, x672000, x672001, x672002, x672003, x679000, x679001, x679002, x687000, x687001, x687002 => if x62 < x61 then (if 0 ≤ x62 then (if x62 < (x671002.length : Int) then ((pixel_Dist.f ((rd_T37 x671002 x62).f0) ((rd_T37 x671002 x62).f1) ((rd_T37 x671002 x62).f2) ((rd_T37 x671002 x62).f3) x672000 x672001 x672002 x672003).bind fun t689 => (if x62 < (x679002.length : Int) then (if (rd x679002 x62) < 0 then (imageeditorlaw24_WandSoftens.j2 k x2 x3 x61 x62 true x671000 x671001 x671002 x672000 x672001 x672002 x672003 x679000 x679001 x679002 x687000 x687001 x687002) else (if (rd x679002 x62) > 65535 then (imageeditorlaw24_WandSoftens.j2 k x2 x3 x61 x62 true x671000 x671001 x671002 x672000 x672001 x672002 x672003 x679000 x679001 x679002 x687000 x687001 x687002) else (if t689 < x3 then (if (rd x679002 x62) = 0 then (imageeditorlaw24_WandSoftens.j2 k x2 x3 x61 x62 true x671000 x671001 x671002 x672000 x672001 x672002 x672003 x679000 x679001 x679002 x687000 x687001 x687002) else (if t689 ≥ x3 then (imageeditorlaw24_WandSoftens.j2 k x2 x3 x61 x62 true x671000 x671001 x671002 x672000 x672001 x672002 x672003 x679000 x679001 x679002 x687000 x687001 x687002) else (if t689 ≤ x2 then (if (rd x679002 x62) = 65535 then (if x62 < (x687002.length : Int) then (if (rd x687002 x62) = 65535 then (if t689 > x2 then (imageeditorlaw24_WandSoftens.j2 k x2 x3 x61 x62 ((rd x687002 x62) != 0) x671000 x671001 x671002 x672000 x672001 x672002 x672003 x679000 x679001 x679002 x687000 x687001 x687002) else (imageeditorlaw24_WandSoftens.j2 k x2 x3 x61 x62 false x671000 x671001 x671002 x672000 x672001 x672002 x672003 x679000 x679001 x679002 x687000 x687001 x687002)) else (imageeditorlaw24_WandSoftens.j2 k x2 x3 x61 x62 true x671000 x671001 x671002 x672000 x672001 x672002 x672003 x679000 x679001 x679002 x687000 x687001 x687002)) else (none)) else (imageeditorlaw24_WandSoftens.j2 k x2 x3 x61 x62 true x671000 x671001 x671002 x672000 x672001 x672002 x672003 x679000 x679001 x679002 x687000 x687001 x687002)) else (if t689 > x2 then (if x62 < (x687002.length : Int) then (imageeditorlaw24_WandSoftens.j2 k x2 x3 x61 x62 ((rd x687002 x62) != 0) x671000 x671001 x671002 x672000 x672001 x672002 x672003 x679000 x679001 x679002 x687000 x687001 x687002) else (none)) else (imageeditorlaw24_WandSoftens.j2 k x2 x3 x61 x62 false x671000 x671001 x671002 x672000 x672001 x672002 x672003 x679000 x679001 x679002 x687000 x687001 x687002))))) else (if t689 ≥ x3 then (if (rd x679002 x62) = 0 then (if t689 ≤ x2 then (if (rd x679002 x62) = 65535 then (if x62 < (x687002.length : Int) then (if (rd x687002 x62) = 65535 then (if t689 > x2 then (imageeditorlaw24_WandSoftens.j2 k x2 x3 x61 x62 ((rd x687002 x62) != 0) x671000 x671001 x671002 x672000 x672001 x672002 x672003 x679000 x679001 x679002 x687000 x687001 x687002) else (imageeditorlaw24_WandSoftens.j2 k x2 x3 x61 x62 false x671000 x671001 x671002 x672000 x672001 x672002 x672003 x679000 x679001 x679002 x687000 x687001 x687002)) else (imageeditorlaw24_WandSoftens.j2 k x2 x3 x61 x62 true x671000 x671001 x671002 x672000 x672001 x672002 x672003 x679000 x679001 x679002 x687000 x687001 x687002)) else (none)) else (imageeditorlaw24_WandSoftens.j2 k x2 x3 x61 x62 true x671000 x671001 x671002 x672000 x672001 x672002 x672003 x679000 x679001 x679002 x687000 x687001 x687002)) else (if t689 > x2 then (if x62 < (x687002.length : Int) then (imageeditorlaw24_WandSoftens.j2 k x2 x3 x61 x62 ((rd x687002 x62) != 0) x671000 x671001 x671002 x672000 x672001 x672002 x672003 x679000 x679001 x679002 x687000 x687001 x687002) else (none)) else (imageeditorlaw24_WandSoftens.j2 k x2 x3 x61 x62 false x671000 x671001 x671002 x672000 x672001 x672002 x672003 x679000 x679001 x679002 x687000 x687001 x687002))) else (imageeditorlaw24_WandSoftens.j2 k x2 x3 x61 x62 true x671000 x671001 x671002 x672000 x672001 x672002 x672003 x679000 x679001 x679002 x687000 x687001 x687002)) else (if t689 ≤ x2 then (if (rd x679002 x62) = 65535 then (if x62 < (x687002.length : Int) then (if (rd x687002 x62) = 65535 then (if t689 > x2 then (imageeditorlaw24_WandSoftens.j2 k x2 x3 x61 x62 ((rd x687002 x62) != 0) x671000 x671001 x671002 x672000 x672001 x672002 x672003 x679000 x679001 x679002 x687000 x687001 x687002) else (imageeditorlaw24_WandSoftens.j2 k x2 x3 x61 x62 false x671000 x671001 x671002 x672000 x672001 x672002 x672003 x679000 x679001 x679002 x687000 x687001 x687002)) else (imageeditorlaw24_WandSoftens.j2 k x2 x3 x61 x62 true x671000 x671001 x671002 x672000 x672001 x672002 x672003 x679000 x679001 x679002 x687000 x687001 x687002)) else (none)) else (imageeditorlaw24_WandSoftens.j2 k x2 x3 x61 x62 true x671000 x671001 x671002 x672000 x672001 x672002 x672003 x679000 x679001 x679002 x687000 x687001 x687002)) else (if t689 > x2 then (if x62 < (x687002.length : Int) then (imageeditorlaw24_WandSoftens.j2 k x2 x3 x61 x62 ((rd x687002 x62) != 0) x671000 x671001 x671002 x672000 x672001 x672002 x672003 x679000 x679001 x679002 x687000 x687001 x687002) else (none)) else (imageeditorlaw24_WandSoftens.j2 k x2 x3 x61 x62 false x671000 x671001 x671002 x672000 x672001 x672002 x672003 x679000 x679001 x679002 x687000 x687001 x687002))))))) else (none))) else (none)) else (none)) else ((imageeditorlaw24_awake.f k).bind fun t687 => (some t687))
def imageeditorlaw24_WandSoftens.j2 : Nat → Int → Int → Int → Int → Bool → Int → Int → List (S37) → Int → Int → Int → Int → Int → Int → List Int → Int → Int → List Int → Option (Bool)
 | 0, _, _, _, _, _, _, _, _, _, _, _, _, _, _, _, _, _, _ => none
 | k + 1, x2, x3, x61, x62, x150, x671000, x671001, x671002, x672000, x672001, x672002, x672003, x679000, x679001, x679002, x687000, x687001, x687002 => if x150 = true then (some false) else (imageeditorlaw24_WandSoftens.l0 k x2 x3 x61 (wrap64 (x62 + 1)) x671000 x671001 x671002 x672000 x672001 x672002 x672003 x679000 x679001 x679002 x687000 x687001 x687002)
end
def imageeditorlaw24_WandSoftens.f (k : Nat) (a0_0 : Int) (a0_1 : Int) (l0_2 : List (S37)) (a1_0 : Int) (a1_1 : Int) (a1_2 : Int) (a1_3 : Int) (a2 : Int) (a3 : Int) : Option (Bool) := (wand_Soft.f k a0_0 a0_1 l0_2 a1_0 a1_1 a1_2 a1_3 a2 a3).bind fun bt672 => (if bt672.2.2.2 = 0 then ((wand_Similar.f k a0_0 a0_1 l0_2 a1_0 a1_1 a1_2 a1_3 a2).bind fun bt680 => (if bt680.2.2.2 = 0 then (if (bt672.2.2.1.length : Int) = (l0_2.length : Int) then (imageeditorlaw24_WandSoftens.j0 k a2 a3 ((bt680.2.2.1.length : Int) != (l0_2.length : Int)) a0_0 a0_1 l0_2 a1_0 a1_1 a1_2 a1_3 bt672.1 bt672.2.1 bt672.2.2.1 bt680.1 bt680.2.1 bt680.2.2.1) else (imageeditorlaw24_WandSoftens.j0 k a2 a3 true a0_0 a0_1 l0_2 a1_0 a1_1 a1_2 a1_3 bt672.1 bt672.2.1 bt672.2.2.1 bt680.1 bt680.2.1 bt680.2.2.1)) else (imageeditorlaw24_WandSoftens.j0 k a2 a3 true a0_0 a0_1 l0_2 a1_0 a1_1 a1_2 a1_3 bt672.1 bt672.2.1 bt672.2.2.1 bt680.1 bt680.2.1 bt680.2.2.1))) else (if (bt672.2.2.1.length : Int) = 0 then ((imageeditorlaw24_awake.f k).bind fun t679 => (some t679)) else (some false)))
theorem imageeditorlaw24_WandSoftens.mono_l : ∀ k, (∀ y0 y1 y2 y3 y4 y5 y6 y7 y8 y9 y10 y11 y12 y13 y14 y15, LeO (imageeditorlaw24_WandSoftens.j0 k y0 y1 y2 y3 y4 y5 y6 y7 y8 y9 y10 y11 y12 y13 y14 y15) (imageeditorlaw24_WandSoftens.j0 (k + 1) y0 y1 y2 y3 y4 y5 y6 y7 y8 y9 y10 y11 y12 y13 y14 y15)) ∧ (∀ y0 y1 y2 y3 y4 y5 y6 y7 y8 y9 y10 y11 y12 y13 y14 y15 y16, LeO (imageeditorlaw24_WandSoftens.l0 k y0 y1 y2 y3 y4 y5 y6 y7 y8 y9 y10 y11 y12 y13 y14 y15 y16) (imageeditorlaw24_WandSoftens.l0 (k + 1) y0 y1 y2 y3 y4 y5 y6 y7 y8 y9 y10 y11 y12 y13 y14 y15 y16)) ∧ (∀ y0 y1 y2 y3 y4 y5 y6 y7 y8 y9 y10 y11 y12 y13 y14 y15 y16 y17, LeO (imageeditorlaw24_WandSoftens.j2 k y0 y1 y2 y3 y4 y5 y6 y7 y8 y9 y10 y11 y12 y13 y14 y15 y16 y17) (imageeditorlaw24_WandSoftens.j2 (k + 1) y0 y1 y2 y3 y4 y5 y6 y7 y8 y9 y10 y11 y12 y13 y14 y15 y16 y17))
 | 0 => ⟨fun _ _ _ _ _ _ _ _ _ _ _ _ _ _ _ _ r h => by simp [imageeditorlaw24_WandSoftens.j0] at h, fun _ _ _ _ _ _ _ _ _ _ _ _ _ _ _ _ _ r h => by simp [imageeditorlaw24_WandSoftens.l0] at h, fun _ _ _ _ _ _ _ _ _ _ _ _ _ _ _ _ _ _ r h => by simp [imageeditorlaw24_WandSoftens.j2] at h⟩
 | k + 1 => by
  obtain ⟨ih0, ih1, ih2⟩ := imageeditorlaw24_WandSoftens.mono_l k
  refine ⟨?_, ?_, ?_⟩
  ·intro y0 y1 y2 y3 y4 y5 y6 y7 y8 y9 y10 y11 y12 y13 y14 y15
   unfold imageeditorlaw24_WandSoftens.j0
   repeat' first
   | (with_reducible exact ih0 _ _ _ _ _ _ _ _ _ _ _ _ _ _ _ _)
   | (with_reducible exact ih1 _ _ _ _ _ _ _ _ _ _ _ _ _ _ _ _ _)
   | (with_reducible exact ih2 _ _ _ _ _ _ _ _ _ _ _ _ _ _ _ _ _ _)
   | (with_reducible exact imageeditorlaw24_awake.mono _)
   | (with_reducible exact wand_Similar.mono _ _ _ _ _ _ _ _ _)
   | (with_reducible exact wand_Soft.mono _ _ _ _ _ _ _ _ _ _)
   | (with_reducible exact LeO.refl _)
   | (with_reducible exact LeO.none _)
   | (with_reducible refine LeO.ite ?_ ?_)
   | (with_reducible refine LeO.bind ?_ (fun _ => ?_))
   | exact ih0 _ _ _ _ _ _ _ _ _ _ _ _ _ _ _ _
   | exact ih1 _ _ _ _ _ _ _ _ _ _ _ _ _ _ _ _ _
   | exact ih2 _ _ _ _ _ _ _ _ _ _ _ _ _ _ _ _ _ _
   | exact imageeditorlaw24_awake.mono _
   | exact wand_Similar.mono _ _ _ _ _ _ _ _ _
   | exact wand_Soft.mono _ _ _ _ _ _ _ _ _ _
   | exact LeO.none _
   | refine LeO.ite ?_ ?_
   | refine LeO.bind ?_ (fun _ => ?_)
  ·intro y0 y1 y2 y3 y4 y5 y6 y7 y8 y9 y10 y11 y12 y13 y14 y15 y16
   unfold imageeditorlaw24_WandSoftens.l0
   repeat' first
   | (with_reducible exact ih0 _ _ _ _ _ _ _ _ _ _ _ _ _ _ _ _)
   | (with_reducible exact ih1 _ _ _ _ _ _ _ _ _ _ _ _ _ _ _ _ _)
   | (with_reducible exact ih2 _ _ _ _ _ _ _ _ _ _ _ _ _ _ _ _ _ _)
   | (with_reducible exact imageeditorlaw24_awake.mono _)
   | (with_reducible exact wand_Similar.mono _ _ _ _ _ _ _ _ _)
   | (with_reducible exact wand_Soft.mono _ _ _ _ _ _ _ _ _ _)
   | (with_reducible exact LeO.refl _)
   | (with_reducible exact LeO.none _)
   | (with_reducible refine LeO.ite ?_ ?_)
   | (with_reducible refine LeO.bind ?_ (fun _ => ?_))
   | exact ih0 _ _ _ _ _ _ _ _ _ _ _ _ _ _ _ _
   | exact ih1 _ _ _ _ _ _ _ _ _ _ _ _ _ _ _ _ _
   | exact ih2 _ _ _ _ _ _ _ _ _ _ _ _ _ _ _ _ _ _
   | exact imageeditorlaw24_awake.mono _
   | exact wand_Similar.mono _ _ _ _ _ _ _ _ _
   | exact wand_Soft.mono _ _ _ _ _ _ _ _ _ _
   | exact LeO.none _
   | refine LeO.ite ?_ ?_
   | refine LeO.bind ?_ (fun _ => ?_)
  ·intro y0 y1 y2 y3 y4 y5 y6 y7 y8 y9 y10 y11 y12 y13 y14 y15 y16 y17
   unfold imageeditorlaw24_WandSoftens.j2
   repeat' first
   | (with_reducible exact ih0 _ _ _ _ _ _ _ _ _ _ _ _ _ _ _ _)
   | (with_reducible exact ih1 _ _ _ _ _ _ _ _ _ _ _ _ _ _ _ _ _)
   | (with_reducible exact ih2 _ _ _ _ _ _ _ _ _ _ _ _ _ _ _ _ _ _)
   | (with_reducible exact imageeditorlaw24_awake.mono _)
   | (with_reducible exact wand_Similar.mono _ _ _ _ _ _ _ _ _)
   | (with_reducible exact wand_Soft.mono _ _ _ _ _ _ _ _ _ _)
   | (with_reducible exact LeO.refl _)
   | (with_reducible exact LeO.none _)
   | (with_reducible refine LeO.ite ?_ ?_)
   | (with_reducible refine LeO.bind ?_ (fun _ => ?_))
   | exact ih0 _ _ _ _ _ _ _ _ _ _ _ _ _ _ _ _
   | exact ih1 _ _ _ _ _ _ _ _ _ _ _ _ _ _ _ _ _
   | exact ih2 _ _ _ _ _ _ _ _ _ _ _ _ _ _ _ _ _ _
   | exact imageeditorlaw24_awake.mono _
   | exact wand_Similar.mono _ _ _ _ _ _ _ _ _
   | exact wand_Soft.mono _ _ _ _ _ _ _ _ _ _
   | exact LeO.none _
   | refine LeO.ite ?_ ?_
   | refine LeO.bind ?_ (fun _ => ?_)
theorem imageeditorlaw24_WandSoftens.mono : ∀ a0 a1 a2 a3 a4 a5 a6 a7 a8 k, LeO (imageeditorlaw24_WandSoftens.f k a0 a1 a2 a3 a4 a5 a6 a7 a8) (imageeditorlaw24_WandSoftens.f (k + 1) a0 a1 a2 a3 a4 a5 a6 a7 a8) := by
 intro a0 a1 a2 a3 a4 a5 a6 a7 a8 k
 obtain ⟨ih0, ih1, ih2⟩ := imageeditorlaw24_WandSoftens.mono_l k
 unfold imageeditorlaw24_WandSoftens.f
 repeat' first
   | (with_reducible exact ih0 _ _ _ _ _ _ _ _ _ _ _ _ _ _ _ _)
   | (with_reducible exact ih1 _ _ _ _ _ _ _ _ _ _ _ _ _ _ _ _ _)
   | (with_reducible exact ih2 _ _ _ _ _ _ _ _ _ _ _ _ _ _ _ _ _ _)
   | (with_reducible exact imageeditorlaw24_awake.mono _)
   | (with_reducible exact wand_Similar.mono _ _ _ _ _ _ _ _ _)
   | (with_reducible exact wand_Soft.mono _ _ _ _ _ _ _ _ _ _)
   | (with_reducible exact LeO.refl _)
   | (with_reducible exact LeO.none _)
   | (with_reducible refine LeO.ite ?_ ?_)
   | (with_reducible refine LeO.bind ?_ (fun _ => ?_))
   | exact ih0 _ _ _ _ _ _ _ _ _ _ _ _ _ _ _ _
   | exact ih1 _ _ _ _ _ _ _ _ _ _ _ _ _ _ _ _ _
   | exact ih2 _ _ _ _ _ _ _ _ _ _ _ _ _ _ _ _ _ _
   | exact imageeditorlaw24_awake.mono _
   | exact wand_Similar.mono _ _ _ _ _ _ _ _ _
   | exact wand_Soft.mono _ _ _ _ _ _ _ _ _ _
   | exact LeO.none _
   | refine LeO.ite ?_ ?_
   | refine LeO.bind ?_ (fun _ => ?_)
def imageeditorlaw24_WandSoftens.T10 : Bool × List (List Nat × List Nat) := (true, [([], []), ([0], [0]), ([], []), ([1, 2], [1, 2]), ([3], [3]), ([], []), ([4, 5], [4, 5]), ([6, 6, 0, 1, 2, 3, 4, 5, 6], [6])])
def imageeditorlaw24_WandSoftens.B10 : List Nat := [0, 1, 0, 7, 15, 0, 63, 127]
theorem imageeditorlaw24_WandSoftens.tab10 : rtab .any (opsOf Try.f7 10) = imageeditorlaw24_WandSoftens.T10 := by kernel_rfl
theorem imageeditorlaw24_WandSoftens.bits10 : waitsOk imageeditorlaw24_WandSoftens.T10.2 imageeditorlaw24_WandSoftens.B10 = true := by kernel_rfl
set_option maxHeartbeats 8000000 in
set_option maxRecDepth 100000 in
theorem imageeditorlaw24_WandSoftens.callsT (k : Nat) (a0_0 : Int) (a0_1 : Int) (A0_2 : Option Addr) (c0_2 : Nat) (l0_2 : List (S37)) (a1_0 : Int) (a1_1 : Int) (a1_2 : Int) (a1_3 : Int) (a2 : Int) (a3 : Int) (r : Bool) (w : World) (hr0_2 : Kd.C k37 w A0_2 l0_2.length l0_2) (hc0_2 : l0_2.length ≤ c0_2) (hT : r = true) (h : imageeditorlaw24_WandSoftens.f k a0_0 a0_1 l0_2 a1_0 a1_1 a1_2 a1_3 a2 a3 = some r) :
  Calls Try.prog 7 #[.agg #[.int .i64 a0_0, .int .i64 a0_1, .slice A0_2 l0_2.length c0_2], .agg #[.int .i64 a1_0, .int .i64 a1_1, .int .i64 a1_2, .int .i64 a1_3], .int .i64 a2, .int .i64 a3] w fun e w' => e = .returned (.bool r) ∧ Below w.heap.size w w' := by
 have hu24 := Try.underlying24
 have hu37 := Try.underlying37
 have hu29 := Try.underlying29
 have HT := Aside0.mk hT
 clear hT
 have HR0_2 := Aside0.mk hr0_2
 have HC0_2 := Aside0.mk hc0_2
 clear hr0_2 hc0_2
 have HB := Aside0.mk (Below.refl w.heap.size w)
 have H : ((wand_Soft.f k a0_0 a0_1 l0_2 a1_0 a1_1 a1_2 a1_3 a2 a3).bind fun bt672 => (if bt672.2.2.2 = 0 then ((wand_Similar.f k a0_0 a0_1 l0_2 a1_0 a1_1 a1_2 a1_3 a2).bind fun bt680 => (if bt680.2.2.2 = 0 then (if (bt672.2.2.1.length : Int) = (l0_2.length : Int) then (imageeditorlaw24_WandSoftens.j0 k a2 a3 ((bt680.2.2.1.length : Int) != (l0_2.length : Int)) a0_0 a0_1 l0_2 a1_0 a1_1 a1_2 a1_3 bt672.1 bt672.2.1 bt672.2.2.1 bt680.1 bt680.2.1 bt680.2.2.1) else (imageeditorlaw24_WandSoftens.j0 k a2 a3 true a0_0 a0_1 l0_2 a1_0 a1_1 a1_2 a1_3 bt672.1 bt672.2.1 bt672.2.2.1 bt680.1 bt680.2.1 bt680.2.2.1)) else (imageeditorlaw24_WandSoftens.j0 k a2 a3 true a0_0 a0_1 l0_2 a1_0 a1_1 a1_2 a1_3 bt672.1 bt672.2.1 bt672.2.2.1 bt680.1 bt680.2.1 bt680.2.2.1))) else (if (bt672.2.2.1.length : Int) = 0 then ((imageeditorlaw24_awake.f k).bind fun t679 => (some t679)) else (some false)))) = some r := h
 clear h
 replace H := Option.bind_eq_some_iff.mp H
 obtain ⟨⟨t672, t673, t674, t677⟩, A50, H⟩ := H
 replace H : (if t677 = 0 then ((wand_Similar.f k a0_0 a0_1 l0_2 a1_0 a1_1 a1_2 a1_3 a2).bind fun bt680 => (if bt680.2.2.2 = 0 then (if (t674.length : Int) = (l0_2.length : Int) then (imageeditorlaw24_WandSoftens.j0 k a2 a3 ((bt680.2.2.1.length : Int) != (l0_2.length : Int)) a0_0 a0_1 l0_2 a1_0 a1_1 a1_2 a1_3 t672 t673 t674 bt680.1 bt680.2.1 bt680.2.2.1) else (imageeditorlaw24_WandSoftens.j0 k a2 a3 true a0_0 a0_1 l0_2 a1_0 a1_1 a1_2 a1_3 t672 t673 t674 bt680.1 bt680.2.1 bt680.2.2.1)) else (imageeditorlaw24_WandSoftens.j0 k a2 a3 true a0_0 a0_1 l0_2 a1_0 a1_1 a1_2 a1_3 t672 t673 t674 bt680.1 bt680.2.1 bt680.2.2.1))) else (if (t674.length : Int) = 0 then ((imageeditorlaw24_awake.f k).bind fun t679 => (some t679)) else (some false))) = some r := H
 have A5 := Aside0.mk A50
 clear A50
 by_cases c6 : t677 = 0
 ·rw [if_pos c6] at H
  have c6b0 : (t677 == 0) = true := beq_iff_eq.mpr c6
  have c6b1 : (t677 != 0) = false := bne_eq_false_iff_eq.mpr c6
  clear c6
  replace H := Option.bind_eq_some_iff.mp H
  obtain ⟨⟨t680, t681, t682, t685⟩, A70, H⟩ := H
  replace H : (if t685 = 0 then (if (t674.length : Int) = (l0_2.length : Int) then (imageeditorlaw24_WandSoftens.j0 k a2 a3 ((t682.length : Int) != (l0_2.length : Int)) a0_0 a0_1 l0_2 a1_0 a1_1 a1_2 a1_3 t672 t673 t674 t680 t681 t682) else (imageeditorlaw24_WandSoftens.j0 k a2 a3 true a0_0 a0_1 l0_2 a1_0 a1_1 a1_2 a1_3 t672 t673 t674 t680 t681 t682)) else (imageeditorlaw24_WandSoftens.j0 k a2 a3 true a0_0 a0_1 l0_2 a1_0 a1_1 a1_2 a1_3 t672 t673 t674 t680 t681 t682)) = some r := H
  have A7 := Aside0.mk A70
  clear A70
  have HC8 := Aside0.mk H
  clear H
  go_enter Try.func7, Try.ntmps7
  dsimp only [List.append]
  go_upto_region 5 with (first | ((with_reducible refine gate_dst (N := 4) rfl ?_); (try (refine gate_guard (by rfl) ?_; dsimp only)); refine box_event ?hg (N := 4) ?hd (cs := #[.int .i64 a0_0, .int .i64 a0_1, .slice A0_2 l0_2.length c0_2]) (t := 24) ?hr ?_; (case hd => rfl); (case hg => rfl); (case hr => first | (go_simp; done) | (go_simp; rfl)); intro gb670 hg w9 hbox hb; have GW670 := zg HB hg; have GE670 := zg HB hg; have n0_ := Aside0.mk (hbox); replace HB := zb HB hb; have BK670 := n0_; clear n0_; clear hb hbox hg) | ((with_reducible refine gate_dst (N := 5) rfl ?_); (try (refine gate_guard (by rfl) ?_; dsimp only)); refine box_event ?hg (N := 5) ?hd (cs := #[.int .i64 a1_0, .int .i64 a1_1, .int .i64 a1_2, .int .i64 a1_3]) (t := 37) ?hr ?_; (case hd => rfl); (case hg => rfl); (case hr => first | (go_simp; done) | (go_simp; rfl)); intro gb671 hg w10 hbox hb; have GW671 := zg HB hg; have GE671 := zg HB hg; have NB670_671 := zn BK670 hg; have NB671_670 := zn' BK670 hg; have n0_ := Aside0.mk (hbox); replace BK670 := zk BK670 hb; replace HB := zb HB hb; have BK671 := n0_; clear n0_; clear hb hbox hg; have hnb11 := NB670_671.out; have hnc11 := NB671_670.out; obtain ⟨hcz12_0, hcz12_1, hcz12_2, hfz12_0, hfz12_1, hfz12_2⟩ := zq3 BK670; obtain ⟨hcz13_0, hcz13_1, hcz13_2, hcz13_3, hfz13_0, hfz13_1, hfz13_2, hfz13_3⟩ := zq4 BK671) | ((with_reducible refine gate_callee (f := 15) rfl ?_); refine goesL_ (some 20) rfl rfl Try.func15 (by kernel_rfl) rfl #[.agg #[.int .i64 a0_0, .int .i64 a0_1, .slice A0_2 l0_2.length c0_2], .agg #[.int .i64 a1_0, .int .i64 a1_1, .int .i64 a1_2, .int .i64 a1_3], .int .i64 a2, .int .i64 a3] rfl (by (try simp only [List.map_toArray, List.map_cons, List.map_nil]); first | done | rfl | (simp only [List.length_drop, List.length_take]; rfl)) ?_; (with_reducible refine (wand_Soft.calls k a0_0 a0_1 _ _ l0_2 a1_0 a1_1 a1_2 a1_3 a2 a3 t672 t673 t674 t677 _ ?side1 ?side2 A5.out).mono ?_); (case side1 => repeat (first | exact (Kd.C_below HR0_2.out HB.out) | (with_reducible refine Kd.C_alloc ?_ _) | (with_reducible refine Kd.C_drewN ?_ _) | (with_reducible refine Kd.C_drew ?_))); (case side2 => exact HC0_2.out); rintro e w14 ⟨v675, rfl, ho0, hb⟩; refine ⟨_, rfl, ?_⟩; have HO676 := zl HB ho0; replace BK670 := zk BK670 hb; replace BK671 := zk BK671 hb; replace HB := zb HB hb; (try clear hb); (try clear hb2); (try clear hk); (try clear hi); (try clear ho0)) | ((with_reducible refine gate_dst (N := 9) rfl ?_); (try (refine gate_guard (by rfl) ?_; dsimp only)); refine box_event ?hg (N := 9) ?hd (cs := #[.int .i64 0, .int .i64 0, .slice none 0 0]) (t := 29) ?hr ?_; (case hd => rfl); (case hg => rfl); (case hr => first | (go_simp; done) | (go_simp; rfl)); intro gb678 hg w15 hbox hb; have GW678 := zg HB hg; have GE678 := zg HB hg; have NB670_678 := zn BK670 hg; have NB678_670 := zn' BK670 hg; have NB671_678 := zn BK671 hg; have NB678_671 := zn' BK671 hg; have n0_ := Aside0.mk (hbox); replace HO676 := zr HO676 hb; replace BK670 := zk BK670 hb; replace BK671 := zk BK671 hb; replace HB := zb HB hb; have BK678 := n0_; clear n0_; clear hb hbox hg; have hnb16 := NB678_670.out; have hnc16 := NB670_678.out; have hnb17 := NB678_671.out; have hnc17 := NB671_678.out; obtain ⟨hcz18_0, hcz18_1, hcz18_2, hfz18_0, hfz18_1, hfz18_2⟩ := zq3 BK678; obtain ⟨Ao19, co19, eo19⟩ := Kd.R_slice HO676.out; subst eo19; obtain ⟨hcz20_0, hcz20_1, hcz20_2, hfz20_0, hfz20_1, hfz20_2⟩ := zq3 BK670; obtain ⟨hcz21_0, hcz21_1, hcz21_2, hcz21_3, hfz21_0, hfz21_1, hfz21_2, hfz21_3⟩ := zq4 BK671) | ((with_reducible refine gate_callee (f := 13) rfl ?_); refine goesL_ (some 36) rfl rfl Try.func13 (by kernel_rfl) rfl #[.agg #[.int .i64 a0_0, .int .i64 a0_1, .slice A0_2 l0_2.length c0_2], .agg #[.int .i64 a1_0, .int .i64 a1_1, .int .i64 a1_2, .int .i64 a1_3], .int .i64 a2] rfl (by (try simp only [List.map_toArray, List.map_cons, List.map_nil]); first | done | rfl | (simp only [List.length_drop, List.length_take]; rfl)) ?_; (with_reducible refine (wand_Similar.calls k a0_0 a0_1 _ _ l0_2 a1_0 a1_1 a1_2 a1_3 a2 t680 t681 t682 t685 _ ?side1 ?side2 A7.out).mono ?_); (case side1 => exact Kd.C_below HR0_2.out (by exact zbo HB GE678)); (case side2 => exact HC0_2.out); rintro e w22 ⟨v683, rfl, ho0, hb⟩; refine ⟨_, rfl, ?_⟩; have n0_ := Aside0.mk (Kd.R_below (by exact zro HO676 BK678 (by decide)) hb); have n1_ := Aside0.mk (Kd.R_lower ho0 (below_size (by exact zbo HB GE678))); have n2_ := Aside0.mk (blk_below (g := gb678) (o := .cells #[.int .i64 t672, .int .i64 t673, .slice Ao19 t674.length co19] 29 (0, 0)) (by exact zp BK678 rfl) hb); have n3_ := Aside0.mk (below_step (by exact zbo HB GE678) hb); replace BK670 := zfk BK670 NB670_678 hb; replace BK671 := zfk BK671 NB671_678 hb; clear HO676; clear BK678; clear HB; have HO676 := n0_; have HO684 := n1_; have BK678 := n2_; have HB := n3_; clear n0_ n1_ n2_ n3_; (try clear hb); (try clear hb2); (try clear hk); (try clear hi); (try clear ho0)) | ((with_reducible refine gate_dst (N := 11) rfl ?_); (try (refine gate_guard (by rfl) ?_; dsimp only)); refine box_event ?hg (N := 11) ?hd (cs := #[.int .i64 0, .int .i64 0, .slice none 0 0]) (t := 29) ?hr ?_; (case hd => rfl); (case hg => rfl); (case hr => first | (go_simp; done) | (go_simp; rfl)); intro gb686 hg w23 hbox hb; have GW686 := zg HB hg; have GE686 := zg HB hg; have NB670_686 := zn BK670 hg; have NB686_670 := zn' BK670 hg; have NB671_686 := zn BK671 hg; have NB686_671 := zn' BK671 hg; have NB678_686 := zn BK678 hg; have NB686_678 := zn' BK678 hg; have n0_ := Aside0.mk (hbox); replace HO676 := zr HO676 hb; replace HO684 := zr HO684 hb; replace BK670 := zk BK670 hb; replace BK671 := zk BK671 hb; replace BK678 := zk BK678 hb; replace HB := zb HB hb; have BK686 := n0_; clear n0_; clear hb hbox hg; have hnb24 := NB686_670.out; have hnc24 := NB670_686.out; have hnb25 := NB686_671.out; have hnc25 := NB671_686.out; have hnb26 := NB686_678.out; have hnc26 := NB678_686.out; obtain ⟨hcz27_0, hcz27_1, hcz27_2, hfz27_0, hfz27_1, hfz27_2⟩ := zq3 BK686; obtain ⟨Ao28, co28, eo28⟩ := Kd.R_slice HO684.out; subst eo28))
  (try simp only [Act.put, sA, sB, sC])
  go_cut [58] (fun v58 wc => ∃ (kq : Nat) (x58_7 : Bool), v58 = .bool x58_7 ∧ Aside0 (imageeditorlaw24_WandSoftens.j0 kq a2 a3 x58_7 a0_0 a0_1 l0_2 a1_0 a1_1 a1_2 a1_3 t672 t673 t674 t680 t681 t682 = some r) ∧ Aside0 (kq ≤ k) ∧ Aside0 (Kd.R (Kd.int .i64) 3 wc w.heap.size (fun _ => True) (.slice Ao19 t674.length co19) t674) ∧ Aside0 (Kd.R (Kd.int .i64) 3 wc w.heap.size (fun _ => True) (.slice Ao28 t682.length co28) t682) ∧ Aside0 (wc.heap[gb670]? = some (.cells #[.int .i64 a0_0, .int .i64 a0_1, (.slice A0_2 l0_2.length c0_2)] 24 (0, 0))) ∧ Aside0 (wc.heap[gb671]? = some (.cells #[.int .i64 a1_0, .int .i64 a1_1, .int .i64 a1_2, .int .i64 a1_3] 37 (0, 0))) ∧ Aside0 (wc.heap[gb678]? = some (.cells #[.int .i64 t672, .int .i64 t673, (.slice Ao19 t674.length co19)] 29 (0, 0))) ∧ Aside0 (wc.heap[gb686]? = some (.cells #[.int .i64 t680, .int .i64 t681, (.slice Ao28 t682.length co28)] 29 (0, 0))) ∧ Aside0 (Below w.heap.size w wc))
  case first =>
   have H := HC8.out
   clear HC8
   by_cases c29 : t685 = 0
   ·rw [if_pos c29] at H
    have c29b0 : (t685 == 0) = true := beq_iff_eq.mpr c29
    have c29b1 : (t685 != 0) = false := bne_eq_false_iff_eq.mpr c29
    clear c29
    (first | rw [c29b0] | (simp only [i64_w, i32_w]; rw [c29b0]) | skip)
    by_cases c30 : (t674.length : Int) = (l0_2.length : Int)
    ·rw [if_pos c30] at H
     have c30b0 : ((t674.length : Int) == (l0_2.length : Int)) = true := beq_iff_eq.mpr c30
     have c30b1 : ((t674.length : Int) != (l0_2.length : Int)) = false := bne_eq_false_iff_eq.mpr c30
     have c30b2 : (t674.length == l0_2.length) = true := by first | simpa using c30 | (simp at c30 ⊢; omega)
     clear c30
     as_aux_lemma =>
      have H' := Aside0.mk H
      clear H
      obtain ⟨hcz31_0, hcz31_1, hcz31_2, hfz31_0, hfz31_1, hfz31_2⟩ := zq3 BK678
      obtain ⟨hcz32_0, hcz32_1, hcz32_2, hfz32_0, hfz32_1, hfz32_2⟩ := zq3 BK670
      obtain ⟨hcz33_0, hcz33_1, hcz33_2, hfz33_0, hfz33_1, hfz33_2⟩ := zq3 BK686
      go_wp2
      go_meet
      case rel => exact ⟨_, (((t682.length : Int) != (l0_2.length : Int))), (by first | rfl | (simp; done) | (simp [*]; done)), H', ⟨by first | omega | exact Nat.le_refl _⟩, ⟨by exact zro HO676 BK686 (by decide)⟩, ⟨by exact zro HO684 BK686 (by decide)⟩, ⟨by exact zf BK670 NB670_686⟩, ⟨by exact zf BK671 NB671_686⟩, ⟨by exact zf BK678 NB678_686⟩, ⟨by exact zp BK686 rfl⟩, ⟨by exact zbo HB GE686⟩⟩
    ·rw [if_neg c30] at H
     have c30b0 : ((t674.length : Int) == (l0_2.length : Int)) = false := beq_eq_false_iff_ne.mpr c30
     have c30b1 : ((t674.length : Int) != (l0_2.length : Int)) = true := bne_iff_ne.mpr c30
     have c30b2 : (t674.length == l0_2.length) = false := by first | simpa using c30 | (simp at c30 ⊢; omega)
     as_aux_lemma =>
      have H' := Aside0.mk H
      clear H
      obtain ⟨hcz34_0, hcz34_1, hcz34_2, hfz34_0, hfz34_1, hfz34_2⟩ := zq3 BK678
      obtain ⟨hcz35_0, hcz35_1, hcz35_2, hfz35_0, hfz35_1, hfz35_2⟩ := zq3 BK670
      go_wp2
      go_meet
      case rel => exact ⟨_, (true), (by first | rfl | (simp; done) | (simp [*]; done)), H', ⟨by first | omega | exact Nat.le_refl _⟩, ⟨by exact zro HO676 BK686 (by decide)⟩, ⟨by exact zro HO684 BK686 (by decide)⟩, ⟨by exact zf BK670 NB670_686⟩, ⟨by exact zf BK671 NB671_686⟩, ⟨by exact zf BK678 NB678_686⟩, ⟨by exact zp BK686 rfl⟩, ⟨by exact zbo HB GE686⟩⟩
   ·rw [if_neg c29] at H
    have c29b0 : (t685 == 0) = false := beq_eq_false_iff_ne.mpr c29
    have c29b1 : (t685 != 0) = true := bne_iff_ne.mpr c29
    (first | rw [c29b0] | (simp only [i64_w, i32_w]; rw [c29b0]) | skip)
    as_aux_lemma =>
     have H' := Aside0.mk H
     clear H
     go_wp2
     go_meet
     case rel => exact ⟨_, (true), (by first | rfl | (simp; done) | (simp [*]; done)), H', ⟨by first | omega | exact Nat.le_refl _⟩, ⟨by exact zro HO676 BK686 (by decide)⟩, ⟨by exact zro HO684 BK686 (by decide)⟩, ⟨by exact zf BK670 NB670_686⟩, ⟨by exact zf BK671 NB671_686⟩, ⟨by exact zf BK678 NB678_686⟩, ⟨by exact zp BK686 rfl⟩, ⟨by exact zbo HB GE686⟩⟩
  case rest =>
   clear HC8
   try clear c1
   try clear c2
   try clear p2
   try clear c3
   try clear q3
   try clear q4
   try clear c6
   try clear c6b0
   try clear c6b1
   try clear c7
   try clear c11
   try clear c13
   try clear c15
   try clear c16
   try clear c17
   try clear c24
   try clear c25
   try clear c26
   try clear c29
   try clear c29b0
   try clear c29b1
   try clear c30
   try clear c30b0
   try clear c30b1
   try clear c30b2
   try clear hcz12_0
   try clear hcz12_1
   try clear hcz12_2
   try clear hcz13_0
   try clear hcz13_1
   try clear hcz13_2
   try clear hcz13_3
   try clear hcz18_0
   try clear hcz18_1
   try clear hcz18_2
   try clear hcz20_0
   try clear hcz20_1
   try clear hcz20_2
   try clear hcz21_0
   try clear hcz21_1
   try clear hcz21_2
   try clear hcz21_3
   try clear hcz27_0
   try clear hcz27_1
   try clear hcz27_2
   try clear hcz31_0
   try clear hcz31_1
   try clear hcz31_2
   try clear hcz32_0
   try clear hcz32_1
   try clear hcz32_2
   try clear hcz33_0
   try clear hcz33_1
   try clear hcz33_2
   try clear hcz34_0
   try clear hcz34_1
   try clear hcz34_2
   try clear hcz35_0
   try clear hcz35_1
   try clear hcz35_2
   try clear hfz12_0
   try clear hfz12_1
   try clear hfz12_2
   try clear hfz13_0
   try clear hfz13_1
   try clear hfz13_2
   try clear hfz13_3
   try clear hfz18_0
   try clear hfz18_1
   try clear hfz18_2
   try clear hfz20_0
   try clear hfz20_1
   try clear hfz20_2
   try clear hfz21_0
   try clear hfz21_1
   try clear hfz21_2
   try clear hfz21_3
   try clear hfz27_0
   try clear hfz27_1
   try clear hfz27_2
   try clear hfz31_0
   try clear hfz31_1
   try clear hfz31_2
   try clear hfz32_0
   try clear hfz32_1
   try clear hfz32_2
   try clear hfz33_0
   try clear hfz33_1
   try clear hfz33_2
   try clear hfz34_0
   try clear hfz34_1
   try clear hfz34_2
   try clear hfz35_0
   try clear hfz35_1
   try clear hfz35_2
   obtain ⟨kq, x58_7, rfl, HA, HJ7, HO_679002, HO_687002, BK670, BK671, BK678, BK686, HB⟩ := hcut
   cases kq with
   | zero => exact absurd HA.out (by simp [imageeditorlaw24_WandSoftens.j0])
   | succ kj7 =>
    have H := HA.out
    clear HA
    simp only [imageeditorlaw24_WandSoftens.j0] at H
    by_cases c36 : x58_7 = true
    ·subst c36
     have H1 : (some false) = some r := by rw [if_pos rfl] at H; exact H
     clear H
     have H := H1
     clear H1
     as_aux_lemma =>
      exact absurd HT.out (by rw [← Option.some.inj H]; decide)
    ·replace c36 := Bool.eq_false_iff.mpr c36
     subst c36
     have H1 : (imageeditorlaw24_WandSoftens.l0 kj7 a2 a3 (l0_2.length : Int) 0 a0_0 a0_1 l0_2 a1_0 a1_1 a1_2 a1_3 t672 t673 t674 t680 t681 t682) = some r := by rw [if_neg (show ¬ (false = true) by decide)] at H; exact H
     clear H
     have H := H1
     clear H1
     have H' := Aside0.mk H
     clear H
     obtain ⟨hcz37_0, hcz37_1, hcz37_2, hfz37_0, hfz37_1, hfz37_2⟩ := zq3 BK670
     go_wp2
     go_loopg [62] kj7 (fun kq v62 w' => ∃ (x62_2 : Int), v62 = .int .i64 x62_2 ∧ Aside0 (imageeditorlaw24_WandSoftens.l0 kq a2 a3 (l0_2.length : Int) x62_2 a0_0 a0_1 l0_2 a1_0 a1_1 a1_2 a1_3 t672 t673 t674 t680 t681 t682 = some r) ∧ Aside0 (kq ≤ kj7) ∧ Aside0 (Kd.R (Kd.int .i64) 3 w' w.heap.size (fun _ => True) (.slice Ao19 t674.length co19) t674) ∧ Aside0 (Kd.R (Kd.int .i64) 3 w' w.heap.size (fun _ => True) (.slice Ao28 t682.length co28) t682) ∧ Aside0 (w'.heap[gb670]? = some (.cells #[.int .i64 a0_0, .int .i64 a0_1, (.slice A0_2 l0_2.length c0_2)] 24 (0, 0))) ∧ Aside0 (w'.heap[gb671]? = some (.cells #[.int .i64 a1_0, .int .i64 a1_1, .int .i64 a1_2, .int .i64 a1_3] 37 (0, 0))) ∧ Aside0 (w'.heap[gb678]? = some (.cells #[.int .i64 t672, .int .i64 t673, (.slice Ao19 t674.length co19)] 29 (0, 0))) ∧ Aside0 (w'.heap[gb686]? = some (.cells #[.int .i64 t680, .int .i64 t681, (.slice Ao28 t682.length co28)] 29 (0, 0))) ∧ Aside0 (Below w.heap.size w w'))
     case atStart => exact ⟨(0), (by first | rfl | (simp; done) | (simp [*]; done)), H', ⟨Nat.le_refl _⟩, ⟨by exact zr0 HO_679002⟩, ⟨by exact zr0 HO_687002⟩, ⟨by exact zk0 BK670⟩, ⟨by exact zk0 BK671⟩, ⟨by exact zk0 BK678⟩, ⟨by exact zk0 BK686⟩, ⟨by exact zb0 HB⟩⟩
     case round =>
      clear H'
      try clear c1
      try clear c2
      try clear p2
      try clear c3
      try clear q3
      try clear q4
      try clear c6
      try clear c6b0
      try clear c6b1
      try clear c7
      try clear c11
      try clear c13
      try clear c15
      try clear c16
      try clear c17
      try clear c24
      try clear c25
      try clear c26
      try clear c29
      try clear c29b0
      try clear c29b1
      try clear c30
      try clear c30b0
      try clear c30b1
      try clear c30b2
      try clear c36
      try clear hcz12_0
      try clear hcz12_1
      try clear hcz12_2
      try clear hcz13_0
      try clear hcz13_1
      try clear hcz13_2
      try clear hcz13_3
      try clear hcz18_0
      try clear hcz18_1
      try clear hcz18_2
      try clear hcz20_0
      try clear hcz20_1
      try clear hcz20_2
      try clear hcz21_0
      try clear hcz21_1
      try clear hcz21_2
      try clear hcz21_3
      try clear hcz27_0
      try clear hcz27_1
      try clear hcz27_2
      try clear hcz31_0
      try clear hcz31_1
      try clear hcz31_2
      try clear hcz32_0
      try clear hcz32_1
      try clear hcz32_2
      try clear hcz33_0
      try clear hcz33_1
      try clear hcz33_2
      try clear hcz34_0
      try clear hcz34_1
      try clear hcz34_2
      try clear hcz35_0
      try clear hcz35_1
      try clear hcz35_2
      try clear hcz37_0
      try clear hcz37_1
      try clear hcz37_2
      try clear hfz12_0
      try clear hfz12_1
      try clear hfz12_2
      try clear hfz13_0
      try clear hfz13_1
      try clear hfz13_2
      try clear hfz13_3
      try clear hfz18_0
      try clear hfz18_1
      try clear hfz18_2
      try clear hfz20_0
      try clear hfz20_1
      try clear hfz20_2
      try clear hfz21_0
      try clear hfz21_1
      try clear hfz21_2
      try clear hfz21_3
      try clear hfz27_0
      try clear hfz27_1
      try clear hfz27_2
      try clear hfz31_0
      try clear hfz31_1
      try clear hfz31_2
      try clear hfz32_0
      try clear hfz32_1
      try clear hfz32_2
      try clear hfz33_0
      try clear hfz33_1
      try clear hfz33_2
      try clear hfz34_0
      try clear hfz34_1
      try clear hfz34_2
      try clear hfz35_0
      try clear hfz35_1
      try clear hfz35_2
      try clear hfz37_0
      try clear hfz37_1
      try clear hfz37_2
      try clear p2
      try clear q3
      try clear q4
      obtain ⟨x62_2, rfl, HA, HK2, HO_679002, HO_687002, BK670, BK671, BK678, BK686, HB⟩ := hrel
      cases gk with
      | zero => exact absurd HA.out (by simp [imageeditorlaw24_WandSoftens.l0])
      | succ k2 =>
       have H := HA.out
       clear HA
       simp only [imageeditorlaw24_WandSoftens.l0] at H
       by_cases c38 : x62_2 < (l0_2.length : Int)
       ·rw [if_pos c38] at H
        have c38b0 : decide (x62_2 < (l0_2.length : Int)) = true := decide_eq_true c38
        clear c38
        by_cases c39 : 0 ≤ x62_2
        ·rw [if_pos c39] at H
         have c39b0 : decide (0 ≤ x62_2) = true := decide_eq_true c39
         clear c39
         by_cases c40 : x62_2 < (l0_2.length : Int)
         ·rw [if_pos c40] at H
          have c40b0 : decide (x62_2 < (l0_2.length : Int)) = true := decide_eq_true c40
          clear c40
          replace H := Option.bind_eq_some_iff.mp H
          obtain ⟨t689, A410, H⟩ := H
          replace H : (if x62_2 < (t674.length : Int) then (if (rd t674 x62_2) < 0 then (imageeditorlaw24_WandSoftens.j2 k2 a2 a3 (l0_2.length : Int) x62_2 true a0_0 a0_1 l0_2 a1_0 a1_1 a1_2 a1_3 t672 t673 t674 t680 t681 t682) else (if (rd t674 x62_2) > 65535 then (imageeditorlaw24_WandSoftens.j2 k2 a2 a3 (l0_2.length : Int) x62_2 true a0_0 a0_1 l0_2 a1_0 a1_1 a1_2 a1_3 t672 t673 t674 t680 t681 t682) else (if t689 < a3 then (if (rd t674 x62_2) = 0 then (imageeditorlaw24_WandSoftens.j2 k2 a2 a3 (l0_2.length : Int) x62_2 true a0_0 a0_1 l0_2 a1_0 a1_1 a1_2 a1_3 t672 t673 t674 t680 t681 t682) else (if t689 ≥ a3 then (imageeditorlaw24_WandSoftens.j2 k2 a2 a3 (l0_2.length : Int) x62_2 true a0_0 a0_1 l0_2 a1_0 a1_1 a1_2 a1_3 t672 t673 t674 t680 t681 t682) else (if t689 ≤ a2 then (if (rd t674 x62_2) = 65535 then (if x62_2 < (t682.length : Int) then (if (rd t682 x62_2) = 65535 then (if t689 > a2 then (imageeditorlaw24_WandSoftens.j2 k2 a2 a3 (l0_2.length : Int) x62_2 ((rd t682 x62_2) != 0) a0_0 a0_1 l0_2 a1_0 a1_1 a1_2 a1_3 t672 t673 t674 t680 t681 t682) else (imageeditorlaw24_WandSoftens.j2 k2 a2 a3 (l0_2.length : Int) x62_2 false a0_0 a0_1 l0_2 a1_0 a1_1 a1_2 a1_3 t672 t673 t674 t680 t681 t682)) else (imageeditorlaw24_WandSoftens.j2 k2 a2 a3 (l0_2.length : Int) x62_2 true a0_0 a0_1 l0_2 a1_0 a1_1 a1_2 a1_3 t672 t673 t674 t680 t681 t682)) else (none)) else (imageeditorlaw24_WandSoftens.j2 k2 a2 a3 (l0_2.length : Int) x62_2 true a0_0 a0_1 l0_2 a1_0 a1_1 a1_2 a1_3 t672 t673 t674 t680 t681 t682)) else (if t689 > a2 then (if x62_2 < (t682.length : Int) then (imageeditorlaw24_WandSoftens.j2 k2 a2 a3 (l0_2.length : Int) x62_2 ((rd t682 x62_2) != 0) a0_0 a0_1 l0_2 a1_0 a1_1 a1_2 a1_3 t672 t673 t674 t680 t681 t682) else (none)) else (imageeditorlaw24_WandSoftens.j2 k2 a2 a3 (l0_2.length : Int) x62_2 false a0_0 a0_1 l0_2 a1_0 a1_1 a1_2 a1_3 t672 t673 t674 t680 t681 t682))))) else (if t689 ≥ a3 then (if (rd t674 x62_2) = 0 then (if t689 ≤ a2 then (if (rd t674 x62_2) = 65535 then (if x62_2 < (t682.length : Int) then (if (rd t682 x62_2) = 65535 then (if t689 > a2 then (imageeditorlaw24_WandSoftens.j2 k2 a2 a3 (l0_2.length : Int) x62_2 ((rd t682 x62_2) != 0) a0_0 a0_1 l0_2 a1_0 a1_1 a1_2 a1_3 t672 t673 t674 t680 t681 t682) else (imageeditorlaw24_WandSoftens.j2 k2 a2 a3 (l0_2.length : Int) x62_2 false a0_0 a0_1 l0_2 a1_0 a1_1 a1_2 a1_3 t672 t673 t674 t680 t681 t682)) else (imageeditorlaw24_WandSoftens.j2 k2 a2 a3 (l0_2.length : Int) x62_2 true a0_0 a0_1 l0_2 a1_0 a1_1 a1_2 a1_3 t672 t673 t674 t680 t681 t682)) else (none)) else (imageeditorlaw24_WandSoftens.j2 k2 a2 a3 (l0_2.length : Int) x62_2 true a0_0 a0_1 l0_2 a1_0 a1_1 a1_2 a1_3 t672 t673 t674 t680 t681 t682)) else (if t689 > a2 then (if x62_2 < (t682.length : Int) then (imageeditorlaw24_WandSoftens.j2 k2 a2 a3 (l0_2.length : Int) x62_2 ((rd t682 x62_2) != 0) a0_0 a0_1 l0_2 a1_0 a1_1 a1_2 a1_3 t672 t673 t674 t680 t681 t682) else (none)) else (imageeditorlaw24_WandSoftens.j2 k2 a2 a3 (l0_2.length : Int) x62_2 false a0_0 a0_1 l0_2 a1_0 a1_1 a1_2 a1_3 t672 t673 t674 t680 t681 t682))) else (imageeditorlaw24_WandSoftens.j2 k2 a2 a3 (l0_2.length : Int) x62_2 true a0_0 a0_1 l0_2 a1_0 a1_1 a1_2 a1_3 t672 t673 t674 t680 t681 t682)) else (if t689 ≤ a2 then (if (rd t674 x62_2) = 65535 then (if x62_2 < (t682.length : Int) then (if (rd t682 x62_2) = 65535 then (if t689 > a2 then (imageeditorlaw24_WandSoftens.j2 k2 a2 a3 (l0_2.length : Int) x62_2 ((rd t682 x62_2) != 0) a0_0 a0_1 l0_2 a1_0 a1_1 a1_2 a1_3 t672 t673 t674 t680 t681 t682) else (imageeditorlaw24_WandSoftens.j2 k2 a2 a3 (l0_2.length : Int) x62_2 false a0_0 a0_1 l0_2 a1_0 a1_1 a1_2 a1_3 t672 t673 t674 t680 t681 t682)) else (imageeditorlaw24_WandSoftens.j2 k2 a2 a3 (l0_2.length : Int) x62_2 true a0_0 a0_1 l0_2 a1_0 a1_1 a1_2 a1_3 t672 t673 t674 t680 t681 t682)) else (none)) else (imageeditorlaw24_WandSoftens.j2 k2 a2 a3 (l0_2.length : Int) x62_2 true a0_0 a0_1 l0_2 a1_0 a1_1 a1_2 a1_3 t672 t673 t674 t680 t681 t682)) else (if t689 > a2 then (if x62_2 < (t682.length : Int) then (imageeditorlaw24_WandSoftens.j2 k2 a2 a3 (l0_2.length : Int) x62_2 ((rd t682 x62_2) != 0) a0_0 a0_1 l0_2 a1_0 a1_1 a1_2 a1_3 t672 t673 t674 t680 t681 t682) else (none)) else (imageeditorlaw24_WandSoftens.j2 k2 a2 a3 (l0_2.length : Int) x62_2 false a0_0 a0_1 l0_2 a1_0 a1_1 a1_2 a1_3 t672 t673 t674 t680 t681 t682))))))) else (none)) = some r := H
          have A41 := Aside0.mk A410
          clear A410
          have HC42 := Aside0.mk H
          clear H
          try go_wp2
          replace HO_679002 := zrd HO_679002
          replace HO_687002 := zrd HO_687002
          replace BK670 := zkd BK670
          replace BK671 := zkd BK671
          replace BK678 := zkd BK678
          replace BK686 := zkd BK686
          replace HB := zbd HB
          have p688 : 0 ≤ (x62_2 : Int) := of_decide_eq_true (by first | (with_reducible assumption) | assumption)
          have q688 : x62_2 < (l0_2.length : Int) := of_decide_eq_true (by first | (with_reducible assumption) | assumption)
          obtain ⟨ad688, e688, hx688_0, hx688_1, hx688_2, hx688_3⟩ := at_T37 HR0_2.out x62_2 p688 q688
          have hw688_3 := hx688_3
          have hw688_2 := hx688_2
          have hw688_1 := hx688_1
          have hw688_0 := hx688_0
          cases e688
          replace hx688_0 := (HB.out.cell (World.block_lt_of_cell? w _ hx688_0)).trans hx688_0
          replace hx688_1 := (HB.out.cell (World.block_lt_of_cell? w _ hx688_1)).trans hx688_1
          replace hx688_2 := (HB.out.cell (World.block_lt_of_cell? w _ hx688_2)).trans hx688_2
          replace hx688_3 := (HB.out.cell (World.block_lt_of_cell? w _ hx688_3)).trans hx688_3
          replace p688 := eq_true p688
          replace q688 := eq_true q688
          refine start_ (n := 8) (S := fun w' => w'.cell? ⟨gb670, 0, none⟩ = some (.int .i64 a0_0) ∧ w'.cell? ⟨gb670, 1, none⟩ = some (.int .i64 a0_1) ∧ w'.cell? ⟨gb670, 2, none⟩ = some (.slice (some ad688) l0_2.length c0_2) ∧ w'.cell? ⟨gb671, 0, none⟩ = some (.int .i64 a1_0) ∧ w'.cell? ⟨gb671, 1, none⟩ = some (.int .i64 a1_1) ∧ w'.cell? ⟨gb671, 2, none⟩ = some (.int .i64 a1_2) ∧ w'.cell? ⟨gb671, 3, none⟩ = some (.int .i64 a1_3) ∧ w'.cell? (ad688.add ((x62_2).toNat * 4)) = some (.int .i64 ((rd_T37 l0_2 x62_2).f0)) ∧ w'.cell? ⟨(ad688.add ((x62_2).toNat * 4)).block, (ad688.add ((x62_2).toNat * 4)).off + 1, none⟩ = some (.int .i64 ((rd_T37 l0_2 x62_2).f1)) ∧ w'.cell? ⟨(ad688.add ((x62_2).toNat * 4)).block, (ad688.add ((x62_2).toNat * 4)).off + 2, none⟩ = some (.int .i64 ((rd_T37 l0_2 x62_2).f2)) ∧ w'.cell? ⟨(ad688.add ((x62_2).toNat * 4)).block, (ad688.add ((x62_2).toNat * 4)).off + 3, none⟩ = some (.int .i64 ((rd_T37 l0_2 x62_2).f3))) (ds := []) (bs 8 0) (by kernel_rfl) rfl rfl ⟨(blk_cell BK670.out 0).trans rfl, (blk_cell BK670.out 1).trans rfl, (blk_cell BK670.out 2).trans rfl, (blk_cell BK671.out 0).trans rfl, (blk_cell BK671.out 1).trans rfl, (blk_cell BK671.out 2).trans rfl, (blk_cell BK671.out 3).trans rfl, ((HB.out.cell (World.block_lt_of_cell? w _ hw688_0)).trans hw688_0), ((HB.out.cell (World.block_lt_of_cell? w _ hw688_1)).trans hw688_1), ((HB.out.cell (World.block_lt_of_cell? w _ hw688_2)).trans hw688_2), ((HB.out.cell (World.block_lt_of_cell? w _ hw688_3)).trans hw688_3)⟩ (fun hHeld => ?_); refine with_tabW imageeditorlaw24_WandSoftens.tab10 imageeditorlaw24_WandSoftens.bits10 (fun HT_ HW_ => ?_)
          generalize wr.drew = w43 at HO_679002 HO_687002 BK670 BK671 BK678 BK686 HB hx688_0 hx688_1 hx688_2 hx688_3 hHeld ⊢
          refine pure_ (i := 0) (N := some 65) (v := ?_) (a' := ?_) (bs 8 1) rfl rfl (any_of HT_.out (by kernel_rfl)) (fun _ _ _ h => h) (Or.inl ⟨by rfl, ?_⟩) ?_ ?_
          rotate_left
          ·intro w'
           go_simp
           with_reducible rfl
          rotate_left
          ·simp only [Act.put, sA, sB, sC, i64_w, i32_w]
           rfl
          refine pure_ (i := 2) (N := some 67) (v := ?_) (a' := ?_) (bs 8 5) rfl rfl (any_of HT_.out (by kernel_rfl)) (fun _ _ _ h => h) (Or.inl ⟨by rfl, ?_⟩) ?_ ?_
          rotate_left
          ·intro w'
           go_simp
           with_reducible rfl
          rotate_left
          ·simp only [Act.put, sA, sB, sC, i64_w, i32_w]
           rfl
          refine take_ (i := 1) (N := some 66) (v := ?_) (a' := ?_) (bs 8 7) rfl rfl (take_ofW HT_.out HW_.out (by kernel_rfl)) (fun _ _ _ h => h) (Or.inl ⟨by rfl, ?_⟩) hHeld ?_ ?_
          rotate_left
          ·rintro w' ⟨s0, s1, s2, s3, s4, s5, s6, s7, s8, s9, s10⟩
           go_simp
           with_reducible rfl
          rotate_left
          ·simp only [Act.put, sA, sB, sC, i64_w, i32_w]
           rfl
          refine pure_ (i := 3) (N := some 68) (v := ?_) (a' := ?_) (bs 8 15) rfl rfl (any_of HT_.out (by kernel_rfl)) (fun _ _ _ h => h) (Or.inl ⟨by rfl, ?_⟩) ?_ ?_
          rotate_left
          ·intro w'
           go_simp
           with_reducible rfl
          rotate_left
          ·simp only [Act.put, sA, sB, sC, i64_w, i32_w]
           rfl
          refine take_ (i := 4) (N := some 69) (v := ?_) (a' := ?_) (bs 8 31) rfl rfl (take_ofW HT_.out HW_.out (by kernel_rfl)) (fun _ _ _ h => h) (Or.inl ⟨by rfl, ?_⟩) hHeld ?_ ?_
          rotate_left
          ·rintro w' ⟨s0, s1, s2, s3, s4, s5, s6, s7, s8, s9, s10⟩
           go_simp
           with_reducible rfl
          rotate_left
          ·simp only [Act.put, sA, sB, sC, i64_w, i32_w]
           rfl
          refine take_ (i := 5) (N := some 70) (v := ?_) (a' := ?_) (bs 8 63) rfl rfl (take_ofW HT_.out HW_.out (by kernel_rfl)) (fun _ _ _ h => h) (Or.inl ⟨by rfl, ?_⟩) hHeld ?_ ?_
          rotate_left
          ·rintro w' ⟨s0, s1, s2, s3, s4, s5, s6, s7, s8, s9, s10⟩
           go_simp
           with_reducible rfl
          rotate_left
          ·simp only [Act.put, sA, sB, sC, i64_w, i32_w]
           rfl
          refine one_ (i := 6) (N := some 71) (bs 8 127) rfl rfl (one_of HT_.out (by kernel_rfl)) (by decide) (fun K hK => ?_)
          refine goes_ Try.func20 (by kernel_rfl) rfl #[.agg #[.int .i64 ((rd_T37 l0_2 x62_2).f0), .int .i64 ((rd_T37 l0_2 x62_2).f1), .int .i64 ((rd_T37 l0_2 x62_2).f2), .int .i64 ((rd_T37 l0_2 x62_2).f3)], .agg #[.int .i64 a1_0, .int .i64 a1_1, .int .i64 a1_2, .int .i64 a1_3]] (by rfl) rfl rfl (by (try simp only [List.map_toArray, List.map_cons, List.map_nil]); first | done | rfl | (simp only [List.length_drop, List.length_take]; rfl)) ?_
          with_reducible refine (pixel_Dist.calls ((rd_T37 l0_2 x62_2).f0) ((rd_T37 l0_2 x62_2).f1) ((rd_T37 l0_2 x62_2).f2) ((rd_T37 l0_2 x62_2).f3) a1_0 a1_1 a1_2 a1_3 t689 _ A41.out).mono ?_
          rintro e w44 ⟨rfl, hb⟩
          refine ⟨_, rfl, ?_⟩
          replace HO_679002 := zr HO_679002 hb
          replace HO_687002 := zr HO_687002 hb
          replace BK670 := zk BK670 hb
          replace BK671 := zk BK671 hb
          replace BK678 := zk BK678 hb
          replace BK686 := zk BK686 hb
          replace HB := zb HB hb
          (try clear hb)
          (try clear hb2)
          (try clear hk)
          (try clear hi)
          refine hK.out _ _ ⟨(blk_cell BK670.out 0).trans rfl, (blk_cell BK670.out 1).trans rfl, (blk_cell BK670.out 2).trans rfl, (blk_cell BK671.out 0).trans rfl, (blk_cell BK671.out 1).trans rfl, (blk_cell BK671.out 2).trans rfl, (blk_cell BK671.out 3).trans rfl, ((HB.out.cell (World.block_lt_of_cell? w _ hw688_0)).trans hw688_0), ((HB.out.cell (World.block_lt_of_cell? w _ hw688_1)).trans hw688_1), ((HB.out.cell (World.block_lt_of_cell? w _ hw688_2)).trans hw688_2), ((HB.out.cell (World.block_lt_of_cell? w _ hw688_3)).trans hw688_3)⟩ (fun hHeld => ?_)
          clear hK K
          refine norm_ (a' := ?_) ?_ ?_
          rotate_left
          ·show Act.put _ (some 71) _ = _
           simp only [Act.put, sA, sB, sC, i64_w, i32_w]
           rfl
          refine pure_ (i := 7) (N := some 14) (v := ?_) (a' := ?_) (bs 8 255) rfl rfl (any_of HT_.out (by kernel_rfl)) (fun _ _ _ h => h) (Or.inl ⟨by rfl, ?_⟩) ?_ ?_
          rotate_left
          ·intro w'
           go_simp
           with_reducible rfl
          rotate_left
          ·simp only [Act.put, sA, sB, sC, i64_w, i32_w]
           rfl
          refine done_ (done_of HT_.out (by kernel_rfl)) ?_
          go_upto_region 11 with (fail)
          go_cut [150] (fun v150 wc => ∃ (kq : Nat) (x150_41 : Bool), v150 = .bool x150_41 ∧ Aside0 (imageeditorlaw24_WandSoftens.j2 kq a2 a3 (l0_2.length : Int) x62_2 x150_41 a0_0 a0_1 l0_2 a1_0 a1_1 a1_2 a1_3 t672 t673 t674 t680 t681 t682 = some r) ∧ Aside0 (kq ≤ k2) ∧ Aside0 (Kd.R (Kd.int .i64) 3 wc w.heap.size (fun _ => True) (.slice Ao19 t674.length co19) t674) ∧ Aside0 (Kd.R (Kd.int .i64) 3 wc w.heap.size (fun _ => True) (.slice Ao28 t682.length co28) t682) ∧ Aside0 (wc.heap[gb670]? = some (.cells #[.int .i64 a0_0, .int .i64 a0_1, (.slice (some ad688) l0_2.length c0_2)] 24 (0, 0))) ∧ Aside0 (wc.heap[gb671]? = some (.cells #[.int .i64 a1_0, .int .i64 a1_1, .int .i64 a1_2, .int .i64 a1_3] 37 (0, 0))) ∧ Aside0 (wc.heap[gb678]? = some (.cells #[.int .i64 t672, .int .i64 t673, (.slice Ao19 t674.length co19)] 29 (0, 0))) ∧ Aside0 (wc.heap[gb686]? = some (.cells #[.int .i64 t680, .int .i64 t681, (.slice Ao28 t682.length co28)] 29 (0, 0))) ∧ Aside0 (Below w.heap.size w wc))
          case first =>
           have H := HC42.out
           clear HC42
           by_cases c45 : x62_2 < (t674.length : Int)
           ·rw [if_pos c45] at H
            have c45b0 : decide (x62_2 < (t674.length : Int)) = true := decide_eq_true c45
            clear c45
            (first | rw [c45b0] | (simp only [i64_w, i32_w]; rw [c45b0]) | skip)
            by_cases c46 : (rd t674 x62_2) < 0
            ·rw [if_pos c46] at H
             have c46b0 : decide ((rd t674 x62_2) < 0) = true := decide_eq_true c46
             clear c46
             as_aux_lemma =>
              have H' := Aside0.mk H
              clear H
              obtain ⟨hcz47_0, hcz47_1, hcz47_2, hfz47_0, hfz47_1, hfz47_2⟩ := zq3 BK678
              have p690 : 0 ≤ (x62_2 : Int) := of_decide_eq_true (by first | (with_reducible assumption) | assumption)
              have q690 : x62_2 < (t674.length : Int) := of_decide_eq_true (by first | (with_reducible assumption) | assumption)
              obtain ⟨ad690, e690, hx690_0⟩ := Kd.at_int (Kd.R_reads' HO_679002.out).2.2 x62_2 p690 q690
              cases e690
              replace p690 := eq_true p690
              replace q690 := eq_true q690
              go_wp2
              go_meet
              case rel => exact ⟨_, (true), (by first | rfl | (simp; done) | (simp [*]; done)), H', ⟨by have := HJ7.out; have := HK2.out; first | omega | exact Nat.le_refl _⟩, ⟨by exact zr0 HO_679002⟩, ⟨by exact zr0 HO_687002⟩, ⟨by exact zk0 BK670⟩, ⟨by exact zk0 BK671⟩, ⟨by exact zk0 BK678⟩, ⟨by exact zk0 BK686⟩, ⟨by exact zb0 HB⟩⟩
            ·rw [if_neg c46] at H
             have c46b0 : decide ((rd t674 x62_2) < 0) = false := decide_eq_false c46
             clear c46
             by_cases c48 : (rd t674 x62_2) > 65535
             ·rw [if_pos c48] at H
              have c48b0 : decide (65535 < (rd t674 x62_2)) = true := decide_eq_true c48
              clear c48
              as_aux_lemma =>
               have H' := Aside0.mk H
               clear H
               obtain ⟨hcz49_0, hcz49_1, hcz49_2, hfz49_0, hfz49_1, hfz49_2⟩ := zq3 BK678
               have p690 : 0 ≤ (x62_2 : Int) := of_decide_eq_true (by first | (with_reducible assumption) | assumption)
               have q690 : x62_2 < (t674.length : Int) := of_decide_eq_true (by first | (with_reducible assumption) | assumption)
               obtain ⟨ad690, e690, hx690_0⟩ := Kd.at_int (Kd.R_reads' HO_679002.out).2.2 x62_2 p690 q690
               cases e690
               replace p690 := eq_true p690
               replace q690 := eq_true q690
               have p691 : 0 ≤ (x62_2 : Int) := of_decide_eq_true (by first | (with_reducible assumption) | assumption)
               have q691 : x62_2 < (t674.length : Int) := of_decide_eq_true (by first | (with_reducible assumption) | assumption)
               obtain ⟨ad691, e691, hx691_0⟩ := Kd.at_int (Kd.R_reads' HO_679002.out).2.2 x62_2 p691 q691
               obtain rfl : ad690 = ad691 := (by injection e691)
               replace p691 := eq_true p691
               replace q691 := eq_true q691
               go_wp2
               go_meet
               case rel => exact ⟨_, (true), (by first | rfl | (simp; done) | (simp [*]; done)), H', ⟨by have := HJ7.out; have := HK2.out; first | omega | exact Nat.le_refl _⟩, ⟨by exact zr0 HO_679002⟩, ⟨by exact zr0 HO_687002⟩, ⟨by exact zk0 BK670⟩, ⟨by exact zk0 BK671⟩, ⟨by exact zk0 BK678⟩, ⟨by exact zk0 BK686⟩, ⟨by exact zb0 HB⟩⟩
             ·rw [if_neg c48] at H
              have c48b0 : decide (65535 < (rd t674 x62_2)) = false := decide_eq_false c48
              clear c48
              by_cases c50 : t689 < a3
              ·rw [if_pos c50] at H
               have c50b0 : decide (t689 < a3) = true := decide_eq_true c50
               clear c50
               by_cases c51 : (rd t674 x62_2) = 0
               ·rw [if_pos c51] at H
                have c51b0 : ((rd t674 x62_2) == 0) = true := beq_iff_eq.mpr c51
                have c51b1 : ((rd t674 x62_2) != 0) = false := bne_eq_false_iff_eq.mpr c51
                clear c51
                as_aux_lemma =>
                 have H' := Aside0.mk H
                 clear H
                 obtain ⟨hcz52_0, hcz52_1, hcz52_2, hfz52_0, hfz52_1, hfz52_2⟩ := zq3 BK678
                 have p690 : 0 ≤ (x62_2 : Int) := of_decide_eq_true (by first | (with_reducible assumption) | assumption)
                 have q690 : x62_2 < (t674.length : Int) := of_decide_eq_true (by first | (with_reducible assumption) | assumption)
                 obtain ⟨ad690, e690, hx690_0⟩ := Kd.at_int (Kd.R_reads' HO_679002.out).2.2 x62_2 p690 q690
                 cases e690
                 replace p690 := eq_true p690
                 replace q690 := eq_true q690
                 have p691 : 0 ≤ (x62_2 : Int) := of_decide_eq_true (by first | (with_reducible assumption) | assumption)
                 have q691 : x62_2 < (t674.length : Int) := of_decide_eq_true (by first | (with_reducible assumption) | assumption)
                 obtain ⟨ad691, e691, hx691_0⟩ := Kd.at_int (Kd.R_reads' HO_679002.out).2.2 x62_2 p691 q691
                 obtain rfl : ad690 = ad691 := (by injection e691)
                 replace p691 := eq_true p691
                 replace q691 := eq_true q691
                 have p692 : 0 ≤ (x62_2 : Int) := of_decide_eq_true (by first | (with_reducible assumption) | assumption)
                 have q692 : x62_2 < (t674.length : Int) := of_decide_eq_true (by first | (with_reducible assumption) | assumption)
                 obtain ⟨ad692, e692, hx692_0⟩ := Kd.at_int (Kd.R_reads' HO_679002.out).2.2 x62_2 p692 q692
                 obtain rfl : ad690 = ad692 := (by injection e692)
                 replace p692 := eq_true p692
                 replace q692 := eq_true q692
                 go_wp2
                 go_meet
                 case rel => exact ⟨_, (true), (by first | rfl | (simp; done) | (simp [*]; done)), H', ⟨by have := HJ7.out; have := HK2.out; first | omega | exact Nat.le_refl _⟩, ⟨by exact zr0 HO_679002⟩, ⟨by exact zr0 HO_687002⟩, ⟨by exact zk0 BK670⟩, ⟨by exact zk0 BK671⟩, ⟨by exact zk0 BK678⟩, ⟨by exact zk0 BK686⟩, ⟨by exact zb0 HB⟩⟩
               ·rw [if_neg c51] at H
                have c51b0 : ((rd t674 x62_2) == 0) = false := beq_eq_false_iff_ne.mpr c51
                have c51b1 : ((rd t674 x62_2) != 0) = true := bne_iff_ne.mpr c51
                by_cases c53 : t689 ≥ a3
                ·rw [if_pos c53] at H
                 have c53b0 : decide (a3 ≤ t689) = true := decide_eq_true c53
                 clear c53
                 as_aux_lemma =>
                  have H' := Aside0.mk H
                  clear H
                  obtain ⟨hcz54_0, hcz54_1, hcz54_2, hfz54_0, hfz54_1, hfz54_2⟩ := zq3 BK678
                  have p690 : 0 ≤ (x62_2 : Int) := of_decide_eq_true (by first | (with_reducible assumption) | assumption)
                  have q690 : x62_2 < (t674.length : Int) := of_decide_eq_true (by first | (with_reducible assumption) | assumption)
                  obtain ⟨ad690, e690, hx690_0⟩ := Kd.at_int (Kd.R_reads' HO_679002.out).2.2 x62_2 p690 q690
                  cases e690
                  replace p690 := eq_true p690
                  replace q690 := eq_true q690
                  have p691 : 0 ≤ (x62_2 : Int) := of_decide_eq_true (by first | (with_reducible assumption) | assumption)
                  have q691 : x62_2 < (t674.length : Int) := of_decide_eq_true (by first | (with_reducible assumption) | assumption)
                  obtain ⟨ad691, e691, hx691_0⟩ := Kd.at_int (Kd.R_reads' HO_679002.out).2.2 x62_2 p691 q691
                  obtain rfl : ad690 = ad691 := (by injection e691)
                  replace p691 := eq_true p691
                  replace q691 := eq_true q691
                  have p692 : 0 ≤ (x62_2 : Int) := of_decide_eq_true (by first | (with_reducible assumption) | assumption)
                  have q692 : x62_2 < (t674.length : Int) := of_decide_eq_true (by first | (with_reducible assumption) | assumption)
                  obtain ⟨ad692, e692, hx692_0⟩ := Kd.at_int (Kd.R_reads' HO_679002.out).2.2 x62_2 p692 q692
                  obtain rfl : ad690 = ad692 := (by injection e692)
                  replace p692 := eq_true p692
                  replace q692 := eq_true q692
                  have p693 : 0 ≤ (x62_2 : Int) := of_decide_eq_true (by first | (with_reducible assumption) | assumption)
                  have q693 : x62_2 < (t674.length : Int) := of_decide_eq_true (by first | (with_reducible assumption) | assumption)
                  obtain ⟨ad693, e693, hx693_0⟩ := Kd.at_int (Kd.R_reads' HO_679002.out).2.2 x62_2 p693 q693
                  obtain rfl : ad690 = ad693 := (by injection e693)
                  replace p693 := eq_true p693
                  replace q693 := eq_true q693
                  go_wp2
                  go_meet
                  case rel => exact ⟨_, (true), (by first | rfl | (simp; done) | (simp [*]; done)), H', ⟨by have := HJ7.out; have := HK2.out; first | omega | exact Nat.le_refl _⟩, ⟨by exact zr0 HO_679002⟩, ⟨by exact zr0 HO_687002⟩, ⟨by exact zk0 BK670⟩, ⟨by exact zk0 BK671⟩, ⟨by exact zk0 BK678⟩, ⟨by exact zk0 BK686⟩, ⟨by exact zb0 HB⟩⟩
                ·rw [if_neg c53] at H
                 have c53b0 : decide (a3 ≤ t689) = false := decide_eq_false c53
                 clear c53
                 by_cases c55 : t689 ≤ a2
                 ·rw [if_pos c55] at H
                  have c55b0 : decide (t689 ≤ a2) = true := decide_eq_true c55
                  clear c55
                  by_cases c56 : (rd t674 x62_2) = 65535
                  ·rw [if_pos c56] at H
                   have c56b0 : ((rd t674 x62_2) == 65535) = true := beq_iff_eq.mpr c56
                   have c56b1 : ((rd t674 x62_2) != 65535) = false := bne_eq_false_iff_eq.mpr c56
                   clear c56
                   by_cases c57 : x62_2 < (t682.length : Int)
                   ·rw [if_pos c57] at H
                    have c57b0 : decide (x62_2 < (t682.length : Int)) = true := decide_eq_true c57
                    clear c57
                    by_cases c58 : (rd t682 x62_2) = 65535
                    ·rw [if_pos c58] at H
                     have c58b0 : ((rd t682 x62_2) == 65535) = true := beq_iff_eq.mpr c58
                     have c58b1 : ((rd t682 x62_2) != 65535) = false := bne_eq_false_iff_eq.mpr c58
                     clear c58
                     by_cases c59 : t689 > a2
                     ·rw [if_pos c59] at H
                      have c59b0 : decide (a2 < t689) = true := decide_eq_true c59
                      clear c59
                      as_aux_lemma =>
                       have H' := Aside0.mk H
                       clear H
                       obtain ⟨hcz60_0, hcz60_1, hcz60_2, hfz60_0, hfz60_1, hfz60_2⟩ := zq3 BK678
                       have p690 : 0 ≤ (x62_2 : Int) := of_decide_eq_true (by first | (with_reducible assumption) | assumption)
                       have q690 : x62_2 < (t674.length : Int) := of_decide_eq_true (by first | (with_reducible assumption) | assumption)
                       obtain ⟨ad690, e690, hx690_0⟩ := Kd.at_int (Kd.R_reads' HO_679002.out).2.2 x62_2 p690 q690
                       cases e690
                       replace p690 := eq_true p690
                       replace q690 := eq_true q690
                       have p691 : 0 ≤ (x62_2 : Int) := of_decide_eq_true (by first | (with_reducible assumption) | assumption)
                       have q691 : x62_2 < (t674.length : Int) := of_decide_eq_true (by first | (with_reducible assumption) | assumption)
                       obtain ⟨ad691, e691, hx691_0⟩ := Kd.at_int (Kd.R_reads' HO_679002.out).2.2 x62_2 p691 q691
                       obtain rfl : ad690 = ad691 := (by injection e691)
                       replace p691 := eq_true p691
                       replace q691 := eq_true q691
                       have p692 : 0 ≤ (x62_2 : Int) := of_decide_eq_true (by first | (with_reducible assumption) | assumption)
                       have q692 : x62_2 < (t674.length : Int) := of_decide_eq_true (by first | (with_reducible assumption) | assumption)
                       obtain ⟨ad692, e692, hx692_0⟩ := Kd.at_int (Kd.R_reads' HO_679002.out).2.2 x62_2 p692 q692
                       obtain rfl : ad690 = ad692 := (by injection e692)
                       replace p692 := eq_true p692
                       replace q692 := eq_true q692
                       have p694 : 0 ≤ (x62_2 : Int) := of_decide_eq_true (by first | (with_reducible assumption) | assumption)
                       have q694 : x62_2 < (t674.length : Int) := of_decide_eq_true (by first | (with_reducible assumption) | assumption)
                       obtain ⟨ad694, e694, hx694_0⟩ := Kd.at_int (Kd.R_reads' HO_679002.out).2.2 x62_2 p694 q694
                       obtain rfl : ad690 = ad694 := (by injection e694)
                       replace p694 := eq_true p694
                       replace q694 := eq_true q694
                       obtain ⟨hcz61_0, hcz61_1, hcz61_2, hfz61_0, hfz61_1, hfz61_2⟩ := zq3 BK686
                       have p695 : 0 ≤ (x62_2 : Int) := of_decide_eq_true (by first | (with_reducible assumption) | assumption)
                       have q695 : x62_2 < (t682.length : Int) := of_decide_eq_true (by first | (with_reducible assumption) | assumption)
                       obtain ⟨ad695, e695, hx695_0⟩ := Kd.at_int (Kd.R_reads' HO_687002.out).2.2 x62_2 p695 q695
                       cases e695
                       replace p695 := eq_true p695
                       replace q695 := eq_true q695
                       have p696 : 0 ≤ (x62_2 : Int) := of_decide_eq_true (by first | (with_reducible assumption) | assumption)
                       have q696 : x62_2 < (t682.length : Int) := of_decide_eq_true (by first | (with_reducible assumption) | assumption)
                       obtain ⟨ad696, e696, hx696_0⟩ := Kd.at_int (Kd.R_reads' HO_687002.out).2.2 x62_2 p696 q696
                       obtain rfl : ad695 = ad696 := (by injection e696)
                       replace p696 := eq_true p696
                       replace q696 := eq_true q696
                       go_wp2
                       go_meet
                       case rel => exact ⟨_, (((rd t682 x62_2) != 0)), (by first | rfl | (simp; done) | (simp [*]; done)), H', ⟨by have := HJ7.out; have := HK2.out; first | omega | exact Nat.le_refl _⟩, ⟨by exact zr0 HO_679002⟩, ⟨by exact zr0 HO_687002⟩, ⟨by exact zk0 BK670⟩, ⟨by exact zk0 BK671⟩, ⟨by exact zk0 BK678⟩, ⟨by exact zk0 BK686⟩, ⟨by exact zb0 HB⟩⟩
                     ·rw [if_neg c59] at H
                      have c59b0 : decide (a2 < t689) = false := decide_eq_false c59
                      clear c59
                      as_aux_lemma =>
                       have H' := Aside0.mk H
                       clear H
                       obtain ⟨hcz62_0, hcz62_1, hcz62_2, hfz62_0, hfz62_1, hfz62_2⟩ := zq3 BK678
                       have p690 : 0 ≤ (x62_2 : Int) := of_decide_eq_true (by first | (with_reducible assumption) | assumption)
                       have q690 : x62_2 < (t674.length : Int) := of_decide_eq_true (by first | (with_reducible assumption) | assumption)
                       obtain ⟨ad690, e690, hx690_0⟩ := Kd.at_int (Kd.R_reads' HO_679002.out).2.2 x62_2 p690 q690
                       cases e690
                       replace p690 := eq_true p690
                       replace q690 := eq_true q690
                       have p691 : 0 ≤ (x62_2 : Int) := of_decide_eq_true (by first | (with_reducible assumption) | assumption)
                       have q691 : x62_2 < (t674.length : Int) := of_decide_eq_true (by first | (with_reducible assumption) | assumption)
                       obtain ⟨ad691, e691, hx691_0⟩ := Kd.at_int (Kd.R_reads' HO_679002.out).2.2 x62_2 p691 q691
                       obtain rfl : ad690 = ad691 := (by injection e691)
                       replace p691 := eq_true p691
                       replace q691 := eq_true q691
                       have p692 : 0 ≤ (x62_2 : Int) := of_decide_eq_true (by first | (with_reducible assumption) | assumption)
                       have q692 : x62_2 < (t674.length : Int) := of_decide_eq_true (by first | (with_reducible assumption) | assumption)
                       obtain ⟨ad692, e692, hx692_0⟩ := Kd.at_int (Kd.R_reads' HO_679002.out).2.2 x62_2 p692 q692
                       obtain rfl : ad690 = ad692 := (by injection e692)
                       replace p692 := eq_true p692
                       replace q692 := eq_true q692
                       have p694 : 0 ≤ (x62_2 : Int) := of_decide_eq_true (by first | (with_reducible assumption) | assumption)
                       have q694 : x62_2 < (t674.length : Int) := of_decide_eq_true (by first | (with_reducible assumption) | assumption)
                       obtain ⟨ad694, e694, hx694_0⟩ := Kd.at_int (Kd.R_reads' HO_679002.out).2.2 x62_2 p694 q694
                       obtain rfl : ad690 = ad694 := (by injection e694)
                       replace p694 := eq_true p694
                       replace q694 := eq_true q694
                       obtain ⟨hcz63_0, hcz63_1, hcz63_2, hfz63_0, hfz63_1, hfz63_2⟩ := zq3 BK686
                       have p695 : 0 ≤ (x62_2 : Int) := of_decide_eq_true (by first | (with_reducible assumption) | assumption)
                       have q695 : x62_2 < (t682.length : Int) := of_decide_eq_true (by first | (with_reducible assumption) | assumption)
                       obtain ⟨ad695, e695, hx695_0⟩ := Kd.at_int (Kd.R_reads' HO_687002.out).2.2 x62_2 p695 q695
                       cases e695
                       replace p695 := eq_true p695
                       replace q695 := eq_true q695
                       go_wp2
                       go_meet
                       case rel => exact ⟨_, (false), (by first | rfl | (simp; done) | (simp [*]; done)), H', ⟨by have := HJ7.out; have := HK2.out; first | omega | exact Nat.le_refl _⟩, ⟨by exact zr0 HO_679002⟩, ⟨by exact zr0 HO_687002⟩, ⟨by exact zk0 BK670⟩, ⟨by exact zk0 BK671⟩, ⟨by exact zk0 BK678⟩, ⟨by exact zk0 BK686⟩, ⟨by exact zb0 HB⟩⟩
                    ·rw [if_neg c58] at H
                     have c58b0 : ((rd t682 x62_2) == 65535) = false := beq_eq_false_iff_ne.mpr c58
                     have c58b1 : ((rd t682 x62_2) != 65535) = true := bne_iff_ne.mpr c58
                     as_aux_lemma =>
                      have H' := Aside0.mk H
                      clear H
                      obtain ⟨hcz64_0, hcz64_1, hcz64_2, hfz64_0, hfz64_1, hfz64_2⟩ := zq3 BK678
                      have p690 : 0 ≤ (x62_2 : Int) := of_decide_eq_true (by first | (with_reducible assumption) | assumption)
                      have q690 : x62_2 < (t674.length : Int) := of_decide_eq_true (by first | (with_reducible assumption) | assumption)
                      obtain ⟨ad690, e690, hx690_0⟩ := Kd.at_int (Kd.R_reads' HO_679002.out).2.2 x62_2 p690 q690
                      cases e690
                      replace p690 := eq_true p690
                      replace q690 := eq_true q690
                      have p691 : 0 ≤ (x62_2 : Int) := of_decide_eq_true (by first | (with_reducible assumption) | assumption)
                      have q691 : x62_2 < (t674.length : Int) := of_decide_eq_true (by first | (with_reducible assumption) | assumption)
                      obtain ⟨ad691, e691, hx691_0⟩ := Kd.at_int (Kd.R_reads' HO_679002.out).2.2 x62_2 p691 q691
                      obtain rfl : ad690 = ad691 := (by injection e691)
                      replace p691 := eq_true p691
                      replace q691 := eq_true q691
                      have p692 : 0 ≤ (x62_2 : Int) := of_decide_eq_true (by first | (with_reducible assumption) | assumption)
                      have q692 : x62_2 < (t674.length : Int) := of_decide_eq_true (by first | (with_reducible assumption) | assumption)
                      obtain ⟨ad692, e692, hx692_0⟩ := Kd.at_int (Kd.R_reads' HO_679002.out).2.2 x62_2 p692 q692
                      obtain rfl : ad690 = ad692 := (by injection e692)
                      replace p692 := eq_true p692
                      replace q692 := eq_true q692
                      have p694 : 0 ≤ (x62_2 : Int) := of_decide_eq_true (by first | (with_reducible assumption) | assumption)
                      have q694 : x62_2 < (t674.length : Int) := of_decide_eq_true (by first | (with_reducible assumption) | assumption)
                      obtain ⟨ad694, e694, hx694_0⟩ := Kd.at_int (Kd.R_reads' HO_679002.out).2.2 x62_2 p694 q694
                      obtain rfl : ad690 = ad694 := (by injection e694)
                      replace p694 := eq_true p694
                      replace q694 := eq_true q694
                      obtain ⟨hcz65_0, hcz65_1, hcz65_2, hfz65_0, hfz65_1, hfz65_2⟩ := zq3 BK686
                      have p695 : 0 ≤ (x62_2 : Int) := of_decide_eq_true (by first | (with_reducible assumption) | assumption)
                      have q695 : x62_2 < (t682.length : Int) := of_decide_eq_true (by first | (with_reducible assumption) | assumption)
                      obtain ⟨ad695, e695, hx695_0⟩ := Kd.at_int (Kd.R_reads' HO_687002.out).2.2 x62_2 p695 q695
                      cases e695
                      replace p695 := eq_true p695
                      replace q695 := eq_true q695
                      go_wp2
                      go_meet
                      case rel => exact ⟨_, (true), (by first | rfl | (simp; done) | (simp [*]; done)), H', ⟨by have := HJ7.out; have := HK2.out; first | omega | exact Nat.le_refl _⟩, ⟨by exact zr0 HO_679002⟩, ⟨by exact zr0 HO_687002⟩, ⟨by exact zk0 BK670⟩, ⟨by exact zk0 BK671⟩, ⟨by exact zk0 BK678⟩, ⟨by exact zk0 BK686⟩, ⟨by exact zb0 HB⟩⟩
                   ·rw [if_neg c57] at H
                    exact absurd H (by simp)
                  ·rw [if_neg c56] at H
                   have c56b0 : ((rd t674 x62_2) == 65535) = false := beq_eq_false_iff_ne.mpr c56
                   have c56b1 : ((rd t674 x62_2) != 65535) = true := bne_iff_ne.mpr c56
                   as_aux_lemma =>
                    have H' := Aside0.mk H
                    clear H
                    obtain ⟨hcz66_0, hcz66_1, hcz66_2, hfz66_0, hfz66_1, hfz66_2⟩ := zq3 BK678
                    have p690 : 0 ≤ (x62_2 : Int) := of_decide_eq_true (by first | (with_reducible assumption) | assumption)
                    have q690 : x62_2 < (t674.length : Int) := of_decide_eq_true (by first | (with_reducible assumption) | assumption)
                    obtain ⟨ad690, e690, hx690_0⟩ := Kd.at_int (Kd.R_reads' HO_679002.out).2.2 x62_2 p690 q690
                    cases e690
                    replace p690 := eq_true p690
                    replace q690 := eq_true q690
                    have p691 : 0 ≤ (x62_2 : Int) := of_decide_eq_true (by first | (with_reducible assumption) | assumption)
                    have q691 : x62_2 < (t674.length : Int) := of_decide_eq_true (by first | (with_reducible assumption) | assumption)
                    obtain ⟨ad691, e691, hx691_0⟩ := Kd.at_int (Kd.R_reads' HO_679002.out).2.2 x62_2 p691 q691
                    obtain rfl : ad690 = ad691 := (by injection e691)
                    replace p691 := eq_true p691
                    replace q691 := eq_true q691
                    have p692 : 0 ≤ (x62_2 : Int) := of_decide_eq_true (by first | (with_reducible assumption) | assumption)
                    have q692 : x62_2 < (t674.length : Int) := of_decide_eq_true (by first | (with_reducible assumption) | assumption)
                    obtain ⟨ad692, e692, hx692_0⟩ := Kd.at_int (Kd.R_reads' HO_679002.out).2.2 x62_2 p692 q692
                    obtain rfl : ad690 = ad692 := (by injection e692)
                    replace p692 := eq_true p692
                    replace q692 := eq_true q692
                    have p694 : 0 ≤ (x62_2 : Int) := of_decide_eq_true (by first | (with_reducible assumption) | assumption)
                    have q694 : x62_2 < (t674.length : Int) := of_decide_eq_true (by first | (with_reducible assumption) | assumption)
                    obtain ⟨ad694, e694, hx694_0⟩ := Kd.at_int (Kd.R_reads' HO_679002.out).2.2 x62_2 p694 q694
                    obtain rfl : ad690 = ad694 := (by injection e694)
                    replace p694 := eq_true p694
                    replace q694 := eq_true q694
                    go_wp2
                    go_meet
                    case rel => exact ⟨_, (true), (by first | rfl | (simp; done) | (simp [*]; done)), H', ⟨by have := HJ7.out; have := HK2.out; first | omega | exact Nat.le_refl _⟩, ⟨by exact zr0 HO_679002⟩, ⟨by exact zr0 HO_687002⟩, ⟨by exact zk0 BK670⟩, ⟨by exact zk0 BK671⟩, ⟨by exact zk0 BK678⟩, ⟨by exact zk0 BK686⟩, ⟨by exact zb0 HB⟩⟩
                 ·rw [if_neg c55] at H
                  have c55b0 : decide (t689 ≤ a2) = false := decide_eq_false c55
                  clear c55
                  by_cases c67 : t689 > a2
                  ·rw [if_pos c67] at H
                   have c67b0 : decide (a2 < t689) = true := decide_eq_true c67
                   clear c67
                   by_cases c68 : x62_2 < (t682.length : Int)
                   ·rw [if_pos c68] at H
                    have c68b0 : decide (x62_2 < (t682.length : Int)) = true := decide_eq_true c68
                    clear c68
                    as_aux_lemma =>
                     have H' := Aside0.mk H
                     clear H
                     obtain ⟨hcz69_0, hcz69_1, hcz69_2, hfz69_0, hfz69_1, hfz69_2⟩ := zq3 BK678
                     have p690 : 0 ≤ (x62_2 : Int) := of_decide_eq_true (by first | (with_reducible assumption) | assumption)
                     have q690 : x62_2 < (t674.length : Int) := of_decide_eq_true (by first | (with_reducible assumption) | assumption)
                     obtain ⟨ad690, e690, hx690_0⟩ := Kd.at_int (Kd.R_reads' HO_679002.out).2.2 x62_2 p690 q690
                     cases e690
                     replace p690 := eq_true p690
                     replace q690 := eq_true q690
                     have p691 : 0 ≤ (x62_2 : Int) := of_decide_eq_true (by first | (with_reducible assumption) | assumption)
                     have q691 : x62_2 < (t674.length : Int) := of_decide_eq_true (by first | (with_reducible assumption) | assumption)
                     obtain ⟨ad691, e691, hx691_0⟩ := Kd.at_int (Kd.R_reads' HO_679002.out).2.2 x62_2 p691 q691
                     obtain rfl : ad690 = ad691 := (by injection e691)
                     replace p691 := eq_true p691
                     replace q691 := eq_true q691
                     have p692 : 0 ≤ (x62_2 : Int) := of_decide_eq_true (by first | (with_reducible assumption) | assumption)
                     have q692 : x62_2 < (t674.length : Int) := of_decide_eq_true (by first | (with_reducible assumption) | assumption)
                     obtain ⟨ad692, e692, hx692_0⟩ := Kd.at_int (Kd.R_reads' HO_679002.out).2.2 x62_2 p692 q692
                     obtain rfl : ad690 = ad692 := (by injection e692)
                     replace p692 := eq_true p692
                     replace q692 := eq_true q692
                     obtain ⟨hcz70_0, hcz70_1, hcz70_2, hfz70_0, hfz70_1, hfz70_2⟩ := zq3 BK686
                     have p697 : 0 ≤ (x62_2 : Int) := of_decide_eq_true (by first | (with_reducible assumption) | assumption)
                     have q697 : x62_2 < (t682.length : Int) := of_decide_eq_true (by first | (with_reducible assumption) | assumption)
                     obtain ⟨ad697, e697, hx697_0⟩ := Kd.at_int (Kd.R_reads' HO_687002.out).2.2 x62_2 p697 q697
                     cases e697
                     replace p697 := eq_true p697
                     replace q697 := eq_true q697
                     go_wp2
                     go_meet
                     case rel => exact ⟨_, (((rd t682 x62_2) != 0)), (by first | rfl | (simp; done) | (simp [*]; done)), H', ⟨by have := HJ7.out; have := HK2.out; first | omega | exact Nat.le_refl _⟩, ⟨by exact zr0 HO_679002⟩, ⟨by exact zr0 HO_687002⟩, ⟨by exact zk0 BK670⟩, ⟨by exact zk0 BK671⟩, ⟨by exact zk0 BK678⟩, ⟨by exact zk0 BK686⟩, ⟨by exact zb0 HB⟩⟩
                   ·rw [if_neg c68] at H
                    exact absurd H (by simp)
                  ·rw [if_neg c67] at H
                   have c67b0 : decide (a2 < t689) = false := decide_eq_false c67
                   clear c67
                   as_aux_lemma =>
                    have H' := Aside0.mk H
                    clear H
                    obtain ⟨hcz71_0, hcz71_1, hcz71_2, hfz71_0, hfz71_1, hfz71_2⟩ := zq3 BK678
                    have p690 : 0 ≤ (x62_2 : Int) := of_decide_eq_true (by first | (with_reducible assumption) | assumption)
                    have q690 : x62_2 < (t674.length : Int) := of_decide_eq_true (by first | (with_reducible assumption) | assumption)
                    obtain ⟨ad690, e690, hx690_0⟩ := Kd.at_int (Kd.R_reads' HO_679002.out).2.2 x62_2 p690 q690
                    cases e690
                    replace p690 := eq_true p690
                    replace q690 := eq_true q690
                    have p691 : 0 ≤ (x62_2 : Int) := of_decide_eq_true (by first | (with_reducible assumption) | assumption)
                    have q691 : x62_2 < (t674.length : Int) := of_decide_eq_true (by first | (with_reducible assumption) | assumption)
                    obtain ⟨ad691, e691, hx691_0⟩ := Kd.at_int (Kd.R_reads' HO_679002.out).2.2 x62_2 p691 q691
                    obtain rfl : ad690 = ad691 := (by injection e691)
                    replace p691 := eq_true p691
                    replace q691 := eq_true q691
                    have p692 : 0 ≤ (x62_2 : Int) := of_decide_eq_true (by first | (with_reducible assumption) | assumption)
                    have q692 : x62_2 < (t674.length : Int) := of_decide_eq_true (by first | (with_reducible assumption) | assumption)
                    obtain ⟨ad692, e692, hx692_0⟩ := Kd.at_int (Kd.R_reads' HO_679002.out).2.2 x62_2 p692 q692
                    obtain rfl : ad690 = ad692 := (by injection e692)
                    replace p692 := eq_true p692
                    replace q692 := eq_true q692
                    go_wp2
                    go_meet
                    case rel => exact ⟨_, (false), (by first | rfl | (simp; done) | (simp [*]; done)), H', ⟨by have := HJ7.out; have := HK2.out; first | omega | exact Nat.le_refl _⟩, ⟨by exact zr0 HO_679002⟩, ⟨by exact zr0 HO_687002⟩, ⟨by exact zk0 BK670⟩, ⟨by exact zk0 BK671⟩, ⟨by exact zk0 BK678⟩, ⟨by exact zk0 BK686⟩, ⟨by exact zb0 HB⟩⟩
              ·rw [if_neg c50] at H
               have c50b0 : decide (t689 < a3) = false := decide_eq_false c50
               clear c50
               by_cases c72 : t689 ≥ a3
               ·rw [if_pos c72] at H
                have c72b0 : decide (a3 ≤ t689) = true := decide_eq_true c72
                clear c72
                by_cases c73 : (rd t674 x62_2) = 0
                ·rw [if_pos c73] at H
                 have c73b0 : ((rd t674 x62_2) == 0) = true := beq_iff_eq.mpr c73
                 have c73b1 : ((rd t674 x62_2) != 0) = false := bne_eq_false_iff_eq.mpr c73
                 clear c73
                 by_cases c74 : t689 ≤ a2
                 ·rw [if_pos c74] at H
                  have c74b0 : decide (t689 ≤ a2) = true := decide_eq_true c74
                  clear c74
                  by_cases c75 : (rd t674 x62_2) = 65535
                  ·rw [if_pos c75] at H
                   have c75b0 : ((rd t674 x62_2) == 65535) = true := beq_iff_eq.mpr c75
                   have c75b1 : ((rd t674 x62_2) != 65535) = false := bne_eq_false_iff_eq.mpr c75
                   clear c75
                   by_cases c76 : x62_2 < (t682.length : Int)
                   ·rw [if_pos c76] at H
                    have c76b0 : decide (x62_2 < (t682.length : Int)) = true := decide_eq_true c76
                    clear c76
                    by_cases c77 : (rd t682 x62_2) = 65535
                    ·rw [if_pos c77] at H
                     have c77b0 : ((rd t682 x62_2) == 65535) = true := beq_iff_eq.mpr c77
                     have c77b1 : ((rd t682 x62_2) != 65535) = false := bne_eq_false_iff_eq.mpr c77
                     clear c77
                     by_cases c78 : t689 > a2
                     ·rw [if_pos c78] at H
                      have c78b0 : decide (a2 < t689) = true := decide_eq_true c78
                      clear c78
                      as_aux_lemma =>
                       have H' := Aside0.mk H
                       clear H
                       obtain ⟨hcz79_0, hcz79_1, hcz79_2, hfz79_0, hfz79_1, hfz79_2⟩ := zq3 BK678
                       have p690 : 0 ≤ (x62_2 : Int) := of_decide_eq_true (by first | (with_reducible assumption) | assumption)
                       have q690 : x62_2 < (t674.length : Int) := of_decide_eq_true (by first | (with_reducible assumption) | assumption)
                       obtain ⟨ad690, e690, hx690_0⟩ := Kd.at_int (Kd.R_reads' HO_679002.out).2.2 x62_2 p690 q690
                       cases e690
                       replace p690 := eq_true p690
                       replace q690 := eq_true q690
                       have p691 : 0 ≤ (x62_2 : Int) := of_decide_eq_true (by first | (with_reducible assumption) | assumption)
                       have q691 : x62_2 < (t674.length : Int) := of_decide_eq_true (by first | (with_reducible assumption) | assumption)
                       obtain ⟨ad691, e691, hx691_0⟩ := Kd.at_int (Kd.R_reads' HO_679002.out).2.2 x62_2 p691 q691
                       obtain rfl : ad690 = ad691 := (by injection e691)
                       replace p691 := eq_true p691
                       replace q691 := eq_true q691
                       have p698 : 0 ≤ (x62_2 : Int) := of_decide_eq_true (by first | (with_reducible assumption) | assumption)
                       have q698 : x62_2 < (t674.length : Int) := of_decide_eq_true (by first | (with_reducible assumption) | assumption)
                       obtain ⟨ad698, e698, hx698_0⟩ := Kd.at_int (Kd.R_reads' HO_679002.out).2.2 x62_2 p698 q698
                       obtain rfl : ad690 = ad698 := (by injection e698)
                       replace p698 := eq_true p698
                       replace q698 := eq_true q698
                       have p699 : 0 ≤ (x62_2 : Int) := of_decide_eq_true (by first | (with_reducible assumption) | assumption)
                       have q699 : x62_2 < (t674.length : Int) := of_decide_eq_true (by first | (with_reducible assumption) | assumption)
                       obtain ⟨ad699, e699, hx699_0⟩ := Kd.at_int (Kd.R_reads' HO_679002.out).2.2 x62_2 p699 q699
                       obtain rfl : ad690 = ad699 := (by injection e699)
                       replace p699 := eq_true p699
                       replace q699 := eq_true q699
                       obtain ⟨hcz80_0, hcz80_1, hcz80_2, hfz80_0, hfz80_1, hfz80_2⟩ := zq3 BK686
                       have p700 : 0 ≤ (x62_2 : Int) := of_decide_eq_true (by first | (with_reducible assumption) | assumption)
                       have q700 : x62_2 < (t682.length : Int) := of_decide_eq_true (by first | (with_reducible assumption) | assumption)
                       obtain ⟨ad700, e700, hx700_0⟩ := Kd.at_int (Kd.R_reads' HO_687002.out).2.2 x62_2 p700 q700
                       cases e700
                       replace p700 := eq_true p700
                       replace q700 := eq_true q700
                       have p701 : 0 ≤ (x62_2 : Int) := of_decide_eq_true (by first | (with_reducible assumption) | assumption)
                       have q701 : x62_2 < (t682.length : Int) := of_decide_eq_true (by first | (with_reducible assumption) | assumption)
                       obtain ⟨ad701, e701, hx701_0⟩ := Kd.at_int (Kd.R_reads' HO_687002.out).2.2 x62_2 p701 q701
                       obtain rfl : ad700 = ad701 := (by injection e701)
                       replace p701 := eq_true p701
                       replace q701 := eq_true q701
                       go_wp2
                       go_meet
                       case rel => exact ⟨_, (((rd t682 x62_2) != 0)), (by first | rfl | (simp; done) | (simp [*]; done)), H', ⟨by have := HJ7.out; have := HK2.out; first | omega | exact Nat.le_refl _⟩, ⟨by exact zr0 HO_679002⟩, ⟨by exact zr0 HO_687002⟩, ⟨by exact zk0 BK670⟩, ⟨by exact zk0 BK671⟩, ⟨by exact zk0 BK678⟩, ⟨by exact zk0 BK686⟩, ⟨by exact zb0 HB⟩⟩
                     ·rw [if_neg c78] at H
                      have c78b0 : decide (a2 < t689) = false := decide_eq_false c78
                      clear c78
                      as_aux_lemma =>
                       have H' := Aside0.mk H
                       clear H
                       obtain ⟨hcz81_0, hcz81_1, hcz81_2, hfz81_0, hfz81_1, hfz81_2⟩ := zq3 BK678
                       have p690 : 0 ≤ (x62_2 : Int) := of_decide_eq_true (by first | (with_reducible assumption) | assumption)
                       have q690 : x62_2 < (t674.length : Int) := of_decide_eq_true (by first | (with_reducible assumption) | assumption)
                       obtain ⟨ad690, e690, hx690_0⟩ := Kd.at_int (Kd.R_reads' HO_679002.out).2.2 x62_2 p690 q690
                       cases e690
                       replace p690 := eq_true p690
                       replace q690 := eq_true q690
                       have p691 : 0 ≤ (x62_2 : Int) := of_decide_eq_true (by first | (with_reducible assumption) | assumption)
                       have q691 : x62_2 < (t674.length : Int) := of_decide_eq_true (by first | (with_reducible assumption) | assumption)
                       obtain ⟨ad691, e691, hx691_0⟩ := Kd.at_int (Kd.R_reads' HO_679002.out).2.2 x62_2 p691 q691
                       obtain rfl : ad690 = ad691 := (by injection e691)
                       replace p691 := eq_true p691
                       replace q691 := eq_true q691
                       have p698 : 0 ≤ (x62_2 : Int) := of_decide_eq_true (by first | (with_reducible assumption) | assumption)
                       have q698 : x62_2 < (t674.length : Int) := of_decide_eq_true (by first | (with_reducible assumption) | assumption)
                       obtain ⟨ad698, e698, hx698_0⟩ := Kd.at_int (Kd.R_reads' HO_679002.out).2.2 x62_2 p698 q698
                       obtain rfl : ad690 = ad698 := (by injection e698)
                       replace p698 := eq_true p698
                       replace q698 := eq_true q698
                       have p699 : 0 ≤ (x62_2 : Int) := of_decide_eq_true (by first | (with_reducible assumption) | assumption)
                       have q699 : x62_2 < (t674.length : Int) := of_decide_eq_true (by first | (with_reducible assumption) | assumption)
                       obtain ⟨ad699, e699, hx699_0⟩ := Kd.at_int (Kd.R_reads' HO_679002.out).2.2 x62_2 p699 q699
                       obtain rfl : ad690 = ad699 := (by injection e699)
                       replace p699 := eq_true p699
                       replace q699 := eq_true q699
                       obtain ⟨hcz82_0, hcz82_1, hcz82_2, hfz82_0, hfz82_1, hfz82_2⟩ := zq3 BK686
                       have p700 : 0 ≤ (x62_2 : Int) := of_decide_eq_true (by first | (with_reducible assumption) | assumption)
                       have q700 : x62_2 < (t682.length : Int) := of_decide_eq_true (by first | (with_reducible assumption) | assumption)
                       obtain ⟨ad700, e700, hx700_0⟩ := Kd.at_int (Kd.R_reads' HO_687002.out).2.2 x62_2 p700 q700
                       cases e700
                       replace p700 := eq_true p700
                       replace q700 := eq_true q700
                       go_wp2
                       go_meet
                       case rel => exact ⟨_, (false), (by first | rfl | (simp; done) | (simp [*]; done)), H', ⟨by have := HJ7.out; have := HK2.out; first | omega | exact Nat.le_refl _⟩, ⟨by exact zr0 HO_679002⟩, ⟨by exact zr0 HO_687002⟩, ⟨by exact zk0 BK670⟩, ⟨by exact zk0 BK671⟩, ⟨by exact zk0 BK678⟩, ⟨by exact zk0 BK686⟩, ⟨by exact zb0 HB⟩⟩
                    ·rw [if_neg c77] at H
                     have c77b0 : ((rd t682 x62_2) == 65535) = false := beq_eq_false_iff_ne.mpr c77
                     have c77b1 : ((rd t682 x62_2) != 65535) = true := bne_iff_ne.mpr c77
                     as_aux_lemma =>
                      have H' := Aside0.mk H
                      clear H
                      obtain ⟨hcz83_0, hcz83_1, hcz83_2, hfz83_0, hfz83_1, hfz83_2⟩ := zq3 BK678
                      have p690 : 0 ≤ (x62_2 : Int) := of_decide_eq_true (by first | (with_reducible assumption) | assumption)
                      have q690 : x62_2 < (t674.length : Int) := of_decide_eq_true (by first | (with_reducible assumption) | assumption)
                      obtain ⟨ad690, e690, hx690_0⟩ := Kd.at_int (Kd.R_reads' HO_679002.out).2.2 x62_2 p690 q690
                      cases e690
                      replace p690 := eq_true p690
                      replace q690 := eq_true q690
                      have p691 : 0 ≤ (x62_2 : Int) := of_decide_eq_true (by first | (with_reducible assumption) | assumption)
                      have q691 : x62_2 < (t674.length : Int) := of_decide_eq_true (by first | (with_reducible assumption) | assumption)
                      obtain ⟨ad691, e691, hx691_0⟩ := Kd.at_int (Kd.R_reads' HO_679002.out).2.2 x62_2 p691 q691
                      obtain rfl : ad690 = ad691 := (by injection e691)
                      replace p691 := eq_true p691
                      replace q691 := eq_true q691
                      have p698 : 0 ≤ (x62_2 : Int) := of_decide_eq_true (by first | (with_reducible assumption) | assumption)
                      have q698 : x62_2 < (t674.length : Int) := of_decide_eq_true (by first | (with_reducible assumption) | assumption)
                      obtain ⟨ad698, e698, hx698_0⟩ := Kd.at_int (Kd.R_reads' HO_679002.out).2.2 x62_2 p698 q698
                      obtain rfl : ad690 = ad698 := (by injection e698)
                      replace p698 := eq_true p698
                      replace q698 := eq_true q698
                      have p699 : 0 ≤ (x62_2 : Int) := of_decide_eq_true (by first | (with_reducible assumption) | assumption)
                      have q699 : x62_2 < (t674.length : Int) := of_decide_eq_true (by first | (with_reducible assumption) | assumption)
                      obtain ⟨ad699, e699, hx699_0⟩ := Kd.at_int (Kd.R_reads' HO_679002.out).2.2 x62_2 p699 q699
                      obtain rfl : ad690 = ad699 := (by injection e699)
                      replace p699 := eq_true p699
                      replace q699 := eq_true q699
                      obtain ⟨hcz84_0, hcz84_1, hcz84_2, hfz84_0, hfz84_1, hfz84_2⟩ := zq3 BK686
                      have p700 : 0 ≤ (x62_2 : Int) := of_decide_eq_true (by first | (with_reducible assumption) | assumption)
                      have q700 : x62_2 < (t682.length : Int) := of_decide_eq_true (by first | (with_reducible assumption) | assumption)
                      obtain ⟨ad700, e700, hx700_0⟩ := Kd.at_int (Kd.R_reads' HO_687002.out).2.2 x62_2 p700 q700
                      cases e700
                      replace p700 := eq_true p700
                      replace q700 := eq_true q700
                      go_wp2
                      go_meet
                      case rel => exact ⟨_, (true), (by first | rfl | (simp; done) | (simp [*]; done)), H', ⟨by have := HJ7.out; have := HK2.out; first | omega | exact Nat.le_refl _⟩, ⟨by exact zr0 HO_679002⟩, ⟨by exact zr0 HO_687002⟩, ⟨by exact zk0 BK670⟩, ⟨by exact zk0 BK671⟩, ⟨by exact zk0 BK678⟩, ⟨by exact zk0 BK686⟩, ⟨by exact zb0 HB⟩⟩
                   ·rw [if_neg c76] at H
                    exact absurd H (by simp)
                  ·rw [if_neg c75] at H
                   have c75b0 : ((rd t674 x62_2) == 65535) = false := beq_eq_false_iff_ne.mpr c75
                   have c75b1 : ((rd t674 x62_2) != 65535) = true := bne_iff_ne.mpr c75
                   as_aux_lemma =>
                    have H' := Aside0.mk H
                    clear H
                    obtain ⟨hcz85_0, hcz85_1, hcz85_2, hfz85_0, hfz85_1, hfz85_2⟩ := zq3 BK678
                    have p690 : 0 ≤ (x62_2 : Int) := of_decide_eq_true (by first | (with_reducible assumption) | assumption)
                    have q690 : x62_2 < (t674.length : Int) := of_decide_eq_true (by first | (with_reducible assumption) | assumption)
                    obtain ⟨ad690, e690, hx690_0⟩ := Kd.at_int (Kd.R_reads' HO_679002.out).2.2 x62_2 p690 q690
                    cases e690
                    replace p690 := eq_true p690
                    replace q690 := eq_true q690
                    have p691 : 0 ≤ (x62_2 : Int) := of_decide_eq_true (by first | (with_reducible assumption) | assumption)
                    have q691 : x62_2 < (t674.length : Int) := of_decide_eq_true (by first | (with_reducible assumption) | assumption)
                    obtain ⟨ad691, e691, hx691_0⟩ := Kd.at_int (Kd.R_reads' HO_679002.out).2.2 x62_2 p691 q691
                    obtain rfl : ad690 = ad691 := (by injection e691)
                    replace p691 := eq_true p691
                    replace q691 := eq_true q691
                    have p698 : 0 ≤ (x62_2 : Int) := of_decide_eq_true (by first | (with_reducible assumption) | assumption)
                    have q698 : x62_2 < (t674.length : Int) := of_decide_eq_true (by first | (with_reducible assumption) | assumption)
                    obtain ⟨ad698, e698, hx698_0⟩ := Kd.at_int (Kd.R_reads' HO_679002.out).2.2 x62_2 p698 q698
                    obtain rfl : ad690 = ad698 := (by injection e698)
                    replace p698 := eq_true p698
                    replace q698 := eq_true q698
                    have p699 : 0 ≤ (x62_2 : Int) := of_decide_eq_true (by first | (with_reducible assumption) | assumption)
                    have q699 : x62_2 < (t674.length : Int) := of_decide_eq_true (by first | (with_reducible assumption) | assumption)
                    obtain ⟨ad699, e699, hx699_0⟩ := Kd.at_int (Kd.R_reads' HO_679002.out).2.2 x62_2 p699 q699
                    obtain rfl : ad690 = ad699 := (by injection e699)
                    replace p699 := eq_true p699
                    replace q699 := eq_true q699
                    go_wp2
                    go_meet
                    case rel => exact ⟨_, (true), (by first | rfl | (simp; done) | (simp [*]; done)), H', ⟨by have := HJ7.out; have := HK2.out; first | omega | exact Nat.le_refl _⟩, ⟨by exact zr0 HO_679002⟩, ⟨by exact zr0 HO_687002⟩, ⟨by exact zk0 BK670⟩, ⟨by exact zk0 BK671⟩, ⟨by exact zk0 BK678⟩, ⟨by exact zk0 BK686⟩, ⟨by exact zb0 HB⟩⟩
                 ·rw [if_neg c74] at H
                  have c74b0 : decide (t689 ≤ a2) = false := decide_eq_false c74
                  clear c74
                  by_cases c86 : t689 > a2
                  ·rw [if_pos c86] at H
                   have c86b0 : decide (a2 < t689) = true := decide_eq_true c86
                   clear c86
                   by_cases c87 : x62_2 < (t682.length : Int)
                   ·rw [if_pos c87] at H
                    have c87b0 : decide (x62_2 < (t682.length : Int)) = true := decide_eq_true c87
                    clear c87
                    as_aux_lemma =>
                     have H' := Aside0.mk H
                     clear H
                     obtain ⟨hcz88_0, hcz88_1, hcz88_2, hfz88_0, hfz88_1, hfz88_2⟩ := zq3 BK678
                     have p690 : 0 ≤ (x62_2 : Int) := of_decide_eq_true (by first | (with_reducible assumption) | assumption)
                     have q690 : x62_2 < (t674.length : Int) := of_decide_eq_true (by first | (with_reducible assumption) | assumption)
                     obtain ⟨ad690, e690, hx690_0⟩ := Kd.at_int (Kd.R_reads' HO_679002.out).2.2 x62_2 p690 q690
                     cases e690
                     replace p690 := eq_true p690
                     replace q690 := eq_true q690
                     have p691 : 0 ≤ (x62_2 : Int) := of_decide_eq_true (by first | (with_reducible assumption) | assumption)
                     have q691 : x62_2 < (t674.length : Int) := of_decide_eq_true (by first | (with_reducible assumption) | assumption)
                     obtain ⟨ad691, e691, hx691_0⟩ := Kd.at_int (Kd.R_reads' HO_679002.out).2.2 x62_2 p691 q691
                     obtain rfl : ad690 = ad691 := (by injection e691)
                     replace p691 := eq_true p691
                     replace q691 := eq_true q691
                     have p698 : 0 ≤ (x62_2 : Int) := of_decide_eq_true (by first | (with_reducible assumption) | assumption)
                     have q698 : x62_2 < (t674.length : Int) := of_decide_eq_true (by first | (with_reducible assumption) | assumption)
                     obtain ⟨ad698, e698, hx698_0⟩ := Kd.at_int (Kd.R_reads' HO_679002.out).2.2 x62_2 p698 q698
                     obtain rfl : ad690 = ad698 := (by injection e698)
                     replace p698 := eq_true p698
                     replace q698 := eq_true q698
                     obtain ⟨hcz89_0, hcz89_1, hcz89_2, hfz89_0, hfz89_1, hfz89_2⟩ := zq3 BK686
                     have p702 : 0 ≤ (x62_2 : Int) := of_decide_eq_true (by first | (with_reducible assumption) | assumption)
                     have q702 : x62_2 < (t682.length : Int) := of_decide_eq_true (by first | (with_reducible assumption) | assumption)
                     obtain ⟨ad702, e702, hx702_0⟩ := Kd.at_int (Kd.R_reads' HO_687002.out).2.2 x62_2 p702 q702
                     cases e702
                     replace p702 := eq_true p702
                     replace q702 := eq_true q702
                     go_wp2
                     go_meet
                     case rel => exact ⟨_, (((rd t682 x62_2) != 0)), (by first | rfl | (simp; done) | (simp [*]; done)), H', ⟨by have := HJ7.out; have := HK2.out; first | omega | exact Nat.le_refl _⟩, ⟨by exact zr0 HO_679002⟩, ⟨by exact zr0 HO_687002⟩, ⟨by exact zk0 BK670⟩, ⟨by exact zk0 BK671⟩, ⟨by exact zk0 BK678⟩, ⟨by exact zk0 BK686⟩, ⟨by exact zb0 HB⟩⟩
                   ·rw [if_neg c87] at H
                    exact absurd H (by simp)
                  ·rw [if_neg c86] at H
                   have c86b0 : decide (a2 < t689) = false := decide_eq_false c86
                   clear c86
                   as_aux_lemma =>
                    have H' := Aside0.mk H
                    clear H
                    obtain ⟨hcz90_0, hcz90_1, hcz90_2, hfz90_0, hfz90_1, hfz90_2⟩ := zq3 BK678
                    have p690 : 0 ≤ (x62_2 : Int) := of_decide_eq_true (by first | (with_reducible assumption) | assumption)
                    have q690 : x62_2 < (t674.length : Int) := of_decide_eq_true (by first | (with_reducible assumption) | assumption)
                    obtain ⟨ad690, e690, hx690_0⟩ := Kd.at_int (Kd.R_reads' HO_679002.out).2.2 x62_2 p690 q690
                    cases e690
                    replace p690 := eq_true p690
                    replace q690 := eq_true q690
                    have p691 : 0 ≤ (x62_2 : Int) := of_decide_eq_true (by first | (with_reducible assumption) | assumption)
                    have q691 : x62_2 < (t674.length : Int) := of_decide_eq_true (by first | (with_reducible assumption) | assumption)
                    obtain ⟨ad691, e691, hx691_0⟩ := Kd.at_int (Kd.R_reads' HO_679002.out).2.2 x62_2 p691 q691
                    obtain rfl : ad690 = ad691 := (by injection e691)
                    replace p691 := eq_true p691
                    replace q691 := eq_true q691
                    have p698 : 0 ≤ (x62_2 : Int) := of_decide_eq_true (by first | (with_reducible assumption) | assumption)
                    have q698 : x62_2 < (t674.length : Int) := of_decide_eq_true (by first | (with_reducible assumption) | assumption)
                    obtain ⟨ad698, e698, hx698_0⟩ := Kd.at_int (Kd.R_reads' HO_679002.out).2.2 x62_2 p698 q698
                    obtain rfl : ad690 = ad698 := (by injection e698)
                    replace p698 := eq_true p698
                    replace q698 := eq_true q698
                    go_wp2
                    go_meet
                    case rel => exact ⟨_, (false), (by first | rfl | (simp; done) | (simp [*]; done)), H', ⟨by have := HJ7.out; have := HK2.out; first | omega | exact Nat.le_refl _⟩, ⟨by exact zr0 HO_679002⟩, ⟨by exact zr0 HO_687002⟩, ⟨by exact zk0 BK670⟩, ⟨by exact zk0 BK671⟩, ⟨by exact zk0 BK678⟩, ⟨by exact zk0 BK686⟩, ⟨by exact zb0 HB⟩⟩
                ·rw [if_neg c73] at H
                 have c73b0 : ((rd t674 x62_2) == 0) = false := beq_eq_false_iff_ne.mpr c73
                 have c73b1 : ((rd t674 x62_2) != 0) = true := bne_iff_ne.mpr c73
                 as_aux_lemma =>
                  have H' := Aside0.mk H
                  clear H
                  obtain ⟨hcz91_0, hcz91_1, hcz91_2, hfz91_0, hfz91_1, hfz91_2⟩ := zq3 BK678
                  have p690 : 0 ≤ (x62_2 : Int) := of_decide_eq_true (by first | (with_reducible assumption) | assumption)
                  have q690 : x62_2 < (t674.length : Int) := of_decide_eq_true (by first | (with_reducible assumption) | assumption)
                  obtain ⟨ad690, e690, hx690_0⟩ := Kd.at_int (Kd.R_reads' HO_679002.out).2.2 x62_2 p690 q690
                  cases e690
                  replace p690 := eq_true p690
                  replace q690 := eq_true q690
                  have p691 : 0 ≤ (x62_2 : Int) := of_decide_eq_true (by first | (with_reducible assumption) | assumption)
                  have q691 : x62_2 < (t674.length : Int) := of_decide_eq_true (by first | (with_reducible assumption) | assumption)
                  obtain ⟨ad691, e691, hx691_0⟩ := Kd.at_int (Kd.R_reads' HO_679002.out).2.2 x62_2 p691 q691
                  obtain rfl : ad690 = ad691 := (by injection e691)
                  replace p691 := eq_true p691
                  replace q691 := eq_true q691
                  have p698 : 0 ≤ (x62_2 : Int) := of_decide_eq_true (by first | (with_reducible assumption) | assumption)
                  have q698 : x62_2 < (t674.length : Int) := of_decide_eq_true (by first | (with_reducible assumption) | assumption)
                  obtain ⟨ad698, e698, hx698_0⟩ := Kd.at_int (Kd.R_reads' HO_679002.out).2.2 x62_2 p698 q698
                  obtain rfl : ad690 = ad698 := (by injection e698)
                  replace p698 := eq_true p698
                  replace q698 := eq_true q698
                  go_wp2
                  go_meet
                  case rel => exact ⟨_, (true), (by first | rfl | (simp; done) | (simp [*]; done)), H', ⟨by have := HJ7.out; have := HK2.out; first | omega | exact Nat.le_refl _⟩, ⟨by exact zr0 HO_679002⟩, ⟨by exact zr0 HO_687002⟩, ⟨by exact zk0 BK670⟩, ⟨by exact zk0 BK671⟩, ⟨by exact zk0 BK678⟩, ⟨by exact zk0 BK686⟩, ⟨by exact zb0 HB⟩⟩
               ·rw [if_neg c72] at H
                have c72b0 : decide (a3 ≤ t689) = false := decide_eq_false c72
                clear c72
                by_cases c92 : t689 ≤ a2
                ·rw [if_pos c92] at H
                 have c92b0 : decide (t689 ≤ a2) = true := decide_eq_true c92
                 clear c92
                 by_cases c93 : (rd t674 x62_2) = 65535
                 ·rw [if_pos c93] at H
                  have c93b0 : ((rd t674 x62_2) == 65535) = true := beq_iff_eq.mpr c93
                  have c93b1 : ((rd t674 x62_2) != 65535) = false := bne_eq_false_iff_eq.mpr c93
                  clear c93
                  by_cases c94 : x62_2 < (t682.length : Int)
                  ·rw [if_pos c94] at H
                   have c94b0 : decide (x62_2 < (t682.length : Int)) = true := decide_eq_true c94
                   clear c94
                   by_cases c95 : (rd t682 x62_2) = 65535
                   ·rw [if_pos c95] at H
                    have c95b0 : ((rd t682 x62_2) == 65535) = true := beq_iff_eq.mpr c95
                    have c95b1 : ((rd t682 x62_2) != 65535) = false := bne_eq_false_iff_eq.mpr c95
                    clear c95
                    by_cases c96 : t689 > a2
                    ·rw [if_pos c96] at H
                     have c96b0 : decide (a2 < t689) = true := decide_eq_true c96
                     clear c96
                     as_aux_lemma =>
                      have H' := Aside0.mk H
                      clear H
                      obtain ⟨hcz97_0, hcz97_1, hcz97_2, hfz97_0, hfz97_1, hfz97_2⟩ := zq3 BK678
                      have p690 : 0 ≤ (x62_2 : Int) := of_decide_eq_true (by first | (with_reducible assumption) | assumption)
                      have q690 : x62_2 < (t674.length : Int) := of_decide_eq_true (by first | (with_reducible assumption) | assumption)
                      obtain ⟨ad690, e690, hx690_0⟩ := Kd.at_int (Kd.R_reads' HO_679002.out).2.2 x62_2 p690 q690
                      cases e690
                      replace p690 := eq_true p690
                      replace q690 := eq_true q690
                      have p691 : 0 ≤ (x62_2 : Int) := of_decide_eq_true (by first | (with_reducible assumption) | assumption)
                      have q691 : x62_2 < (t674.length : Int) := of_decide_eq_true (by first | (with_reducible assumption) | assumption)
                      obtain ⟨ad691, e691, hx691_0⟩ := Kd.at_int (Kd.R_reads' HO_679002.out).2.2 x62_2 p691 q691
                      obtain rfl : ad690 = ad691 := (by injection e691)
                      replace p691 := eq_true p691
                      replace q691 := eq_true q691
                      have p703 : 0 ≤ (x62_2 : Int) := of_decide_eq_true (by first | (with_reducible assumption) | assumption)
                      have q703 : x62_2 < (t674.length : Int) := of_decide_eq_true (by first | (with_reducible assumption) | assumption)
                      obtain ⟨ad703, e703, hx703_0⟩ := Kd.at_int (Kd.R_reads' HO_679002.out).2.2 x62_2 p703 q703
                      obtain rfl : ad690 = ad703 := (by injection e703)
                      replace p703 := eq_true p703
                      replace q703 := eq_true q703
                      obtain ⟨hcz98_0, hcz98_1, hcz98_2, hfz98_0, hfz98_1, hfz98_2⟩ := zq3 BK686
                      have p704 : 0 ≤ (x62_2 : Int) := of_decide_eq_true (by first | (with_reducible assumption) | assumption)
                      have q704 : x62_2 < (t682.length : Int) := of_decide_eq_true (by first | (with_reducible assumption) | assumption)
                      obtain ⟨ad704, e704, hx704_0⟩ := Kd.at_int (Kd.R_reads' HO_687002.out).2.2 x62_2 p704 q704
                      cases e704
                      replace p704 := eq_true p704
                      replace q704 := eq_true q704
                      have p705 : 0 ≤ (x62_2 : Int) := of_decide_eq_true (by first | (with_reducible assumption) | assumption)
                      have q705 : x62_2 < (t682.length : Int) := of_decide_eq_true (by first | (with_reducible assumption) | assumption)
                      obtain ⟨ad705, e705, hx705_0⟩ := Kd.at_int (Kd.R_reads' HO_687002.out).2.2 x62_2 p705 q705
                      obtain rfl : ad704 = ad705 := (by injection e705)
                      replace p705 := eq_true p705
                      replace q705 := eq_true q705
                      go_wp2
                      go_meet
                      case rel => exact ⟨_, (((rd t682 x62_2) != 0)), (by first | rfl | (simp; done) | (simp [*]; done)), H', ⟨by have := HJ7.out; have := HK2.out; first | omega | exact Nat.le_refl _⟩, ⟨by exact zr0 HO_679002⟩, ⟨by exact zr0 HO_687002⟩, ⟨by exact zk0 BK670⟩, ⟨by exact zk0 BK671⟩, ⟨by exact zk0 BK678⟩, ⟨by exact zk0 BK686⟩, ⟨by exact zb0 HB⟩⟩
                    ·rw [if_neg c96] at H
                     have c96b0 : decide (a2 < t689) = false := decide_eq_false c96
                     clear c96
                     as_aux_lemma =>
                      have H' := Aside0.mk H
                      clear H
                      obtain ⟨hcz99_0, hcz99_1, hcz99_2, hfz99_0, hfz99_1, hfz99_2⟩ := zq3 BK678
                      have p690 : 0 ≤ (x62_2 : Int) := of_decide_eq_true (by first | (with_reducible assumption) | assumption)
                      have q690 : x62_2 < (t674.length : Int) := of_decide_eq_true (by first | (with_reducible assumption) | assumption)
                      obtain ⟨ad690, e690, hx690_0⟩ := Kd.at_int (Kd.R_reads' HO_679002.out).2.2 x62_2 p690 q690
                      cases e690
                      replace p690 := eq_true p690
                      replace q690 := eq_true q690
                      have p691 : 0 ≤ (x62_2 : Int) := of_decide_eq_true (by first | (with_reducible assumption) | assumption)
                      have q691 : x62_2 < (t674.length : Int) := of_decide_eq_true (by first | (with_reducible assumption) | assumption)
                      obtain ⟨ad691, e691, hx691_0⟩ := Kd.at_int (Kd.R_reads' HO_679002.out).2.2 x62_2 p691 q691
                      obtain rfl : ad690 = ad691 := (by injection e691)
                      replace p691 := eq_true p691
                      replace q691 := eq_true q691
                      have p703 : 0 ≤ (x62_2 : Int) := of_decide_eq_true (by first | (with_reducible assumption) | assumption)
                      have q703 : x62_2 < (t674.length : Int) := of_decide_eq_true (by first | (with_reducible assumption) | assumption)
                      obtain ⟨ad703, e703, hx703_0⟩ := Kd.at_int (Kd.R_reads' HO_679002.out).2.2 x62_2 p703 q703
                      obtain rfl : ad690 = ad703 := (by injection e703)
                      replace p703 := eq_true p703
                      replace q703 := eq_true q703
                      obtain ⟨hcz100_0, hcz100_1, hcz100_2, hfz100_0, hfz100_1, hfz100_2⟩ := zq3 BK686
                      have p704 : 0 ≤ (x62_2 : Int) := of_decide_eq_true (by first | (with_reducible assumption) | assumption)
                      have q704 : x62_2 < (t682.length : Int) := of_decide_eq_true (by first | (with_reducible assumption) | assumption)
                      obtain ⟨ad704, e704, hx704_0⟩ := Kd.at_int (Kd.R_reads' HO_687002.out).2.2 x62_2 p704 q704
                      cases e704
                      replace p704 := eq_true p704
                      replace q704 := eq_true q704
                      go_wp2
                      go_meet
                      case rel => exact ⟨_, (false), (by first | rfl | (simp; done) | (simp [*]; done)), H', ⟨by have := HJ7.out; have := HK2.out; first | omega | exact Nat.le_refl _⟩, ⟨by exact zr0 HO_679002⟩, ⟨by exact zr0 HO_687002⟩, ⟨by exact zk0 BK670⟩, ⟨by exact zk0 BK671⟩, ⟨by exact zk0 BK678⟩, ⟨by exact zk0 BK686⟩, ⟨by exact zb0 HB⟩⟩
                   ·rw [if_neg c95] at H
                    have c95b0 : ((rd t682 x62_2) == 65535) = false := beq_eq_false_iff_ne.mpr c95
                    have c95b1 : ((rd t682 x62_2) != 65535) = true := bne_iff_ne.mpr c95
                    as_aux_lemma =>
                     have H' := Aside0.mk H
                     clear H
                     obtain ⟨hcz101_0, hcz101_1, hcz101_2, hfz101_0, hfz101_1, hfz101_2⟩ := zq3 BK678
                     have p690 : 0 ≤ (x62_2 : Int) := of_decide_eq_true (by first | (with_reducible assumption) | assumption)
                     have q690 : x62_2 < (t674.length : Int) := of_decide_eq_true (by first | (with_reducible assumption) | assumption)
                     obtain ⟨ad690, e690, hx690_0⟩ := Kd.at_int (Kd.R_reads' HO_679002.out).2.2 x62_2 p690 q690
                     cases e690
                     replace p690 := eq_true p690
                     replace q690 := eq_true q690
                     have p691 : 0 ≤ (x62_2 : Int) := of_decide_eq_true (by first | (with_reducible assumption) | assumption)
                     have q691 : x62_2 < (t674.length : Int) := of_decide_eq_true (by first | (with_reducible assumption) | assumption)
                     obtain ⟨ad691, e691, hx691_0⟩ := Kd.at_int (Kd.R_reads' HO_679002.out).2.2 x62_2 p691 q691
                     obtain rfl : ad690 = ad691 := (by injection e691)
                     replace p691 := eq_true p691
                     replace q691 := eq_true q691
                     have p703 : 0 ≤ (x62_2 : Int) := of_decide_eq_true (by first | (with_reducible assumption) | assumption)
                     have q703 : x62_2 < (t674.length : Int) := of_decide_eq_true (by first | (with_reducible assumption) | assumption)
                     obtain ⟨ad703, e703, hx703_0⟩ := Kd.at_int (Kd.R_reads' HO_679002.out).2.2 x62_2 p703 q703
                     obtain rfl : ad690 = ad703 := (by injection e703)
                     replace p703 := eq_true p703
                     replace q703 := eq_true q703
                     obtain ⟨hcz102_0, hcz102_1, hcz102_2, hfz102_0, hfz102_1, hfz102_2⟩ := zq3 BK686
                     have p704 : 0 ≤ (x62_2 : Int) := of_decide_eq_true (by first | (with_reducible assumption) | assumption)
                     have q704 : x62_2 < (t682.length : Int) := of_decide_eq_true (by first | (with_reducible assumption) | assumption)
                     obtain ⟨ad704, e704, hx704_0⟩ := Kd.at_int (Kd.R_reads' HO_687002.out).2.2 x62_2 p704 q704
                     cases e704
                     replace p704 := eq_true p704
                     replace q704 := eq_true q704
                     go_wp2
                     go_meet
                     case rel => exact ⟨_, (true), (by first | rfl | (simp; done) | (simp [*]; done)), H', ⟨by have := HJ7.out; have := HK2.out; first | omega | exact Nat.le_refl _⟩, ⟨by exact zr0 HO_679002⟩, ⟨by exact zr0 HO_687002⟩, ⟨by exact zk0 BK670⟩, ⟨by exact zk0 BK671⟩, ⟨by exact zk0 BK678⟩, ⟨by exact zk0 BK686⟩, ⟨by exact zb0 HB⟩⟩
                  ·rw [if_neg c94] at H
                   exact absurd H (by simp)
                 ·rw [if_neg c93] at H
                  have c93b0 : ((rd t674 x62_2) == 65535) = false := beq_eq_false_iff_ne.mpr c93
                  have c93b1 : ((rd t674 x62_2) != 65535) = true := bne_iff_ne.mpr c93
                  as_aux_lemma =>
                   have H' := Aside0.mk H
                   clear H
                   obtain ⟨hcz103_0, hcz103_1, hcz103_2, hfz103_0, hfz103_1, hfz103_2⟩ := zq3 BK678
                   have p690 : 0 ≤ (x62_2 : Int) := of_decide_eq_true (by first | (with_reducible assumption) | assumption)
                   have q690 : x62_2 < (t674.length : Int) := of_decide_eq_true (by first | (with_reducible assumption) | assumption)
                   obtain ⟨ad690, e690, hx690_0⟩ := Kd.at_int (Kd.R_reads' HO_679002.out).2.2 x62_2 p690 q690
                   cases e690
                   replace p690 := eq_true p690
                   replace q690 := eq_true q690
                   have p691 : 0 ≤ (x62_2 : Int) := of_decide_eq_true (by first | (with_reducible assumption) | assumption)
                   have q691 : x62_2 < (t674.length : Int) := of_decide_eq_true (by first | (with_reducible assumption) | assumption)
                   obtain ⟨ad691, e691, hx691_0⟩ := Kd.at_int (Kd.R_reads' HO_679002.out).2.2 x62_2 p691 q691
                   obtain rfl : ad690 = ad691 := (by injection e691)
                   replace p691 := eq_true p691
                   replace q691 := eq_true q691
                   have p703 : 0 ≤ (x62_2 : Int) := of_decide_eq_true (by first | (with_reducible assumption) | assumption)
                   have q703 : x62_2 < (t674.length : Int) := of_decide_eq_true (by first | (with_reducible assumption) | assumption)
                   obtain ⟨ad703, e703, hx703_0⟩ := Kd.at_int (Kd.R_reads' HO_679002.out).2.2 x62_2 p703 q703
                   obtain rfl : ad690 = ad703 := (by injection e703)
                   replace p703 := eq_true p703
                   replace q703 := eq_true q703
                   go_wp2
                   go_meet
                   case rel => exact ⟨_, (true), (by first | rfl | (simp; done) | (simp [*]; done)), H', ⟨by have := HJ7.out; have := HK2.out; first | omega | exact Nat.le_refl _⟩, ⟨by exact zr0 HO_679002⟩, ⟨by exact zr0 HO_687002⟩, ⟨by exact zk0 BK670⟩, ⟨by exact zk0 BK671⟩, ⟨by exact zk0 BK678⟩, ⟨by exact zk0 BK686⟩, ⟨by exact zb0 HB⟩⟩
                ·rw [if_neg c92] at H
                 have c92b0 : decide (t689 ≤ a2) = false := decide_eq_false c92
                 clear c92
                 by_cases c104 : t689 > a2
                 ·rw [if_pos c104] at H
                  have c104b0 : decide (a2 < t689) = true := decide_eq_true c104
                  clear c104
                  by_cases c105 : x62_2 < (t682.length : Int)
                  ·rw [if_pos c105] at H
                   have c105b0 : decide (x62_2 < (t682.length : Int)) = true := decide_eq_true c105
                   clear c105
                   as_aux_lemma =>
                    have H' := Aside0.mk H
                    clear H
                    obtain ⟨hcz106_0, hcz106_1, hcz106_2, hfz106_0, hfz106_1, hfz106_2⟩ := zq3 BK678
                    have p690 : 0 ≤ (x62_2 : Int) := of_decide_eq_true (by first | (with_reducible assumption) | assumption)
                    have q690 : x62_2 < (t674.length : Int) := of_decide_eq_true (by first | (with_reducible assumption) | assumption)
                    obtain ⟨ad690, e690, hx690_0⟩ := Kd.at_int (Kd.R_reads' HO_679002.out).2.2 x62_2 p690 q690
                    cases e690
                    replace p690 := eq_true p690
                    replace q690 := eq_true q690
                    have p691 : 0 ≤ (x62_2 : Int) := of_decide_eq_true (by first | (with_reducible assumption) | assumption)
                    have q691 : x62_2 < (t674.length : Int) := of_decide_eq_true (by first | (with_reducible assumption) | assumption)
                    obtain ⟨ad691, e691, hx691_0⟩ := Kd.at_int (Kd.R_reads' HO_679002.out).2.2 x62_2 p691 q691
                    obtain rfl : ad690 = ad691 := (by injection e691)
                    replace p691 := eq_true p691
                    replace q691 := eq_true q691
                    obtain ⟨hcz107_0, hcz107_1, hcz107_2, hfz107_0, hfz107_1, hfz107_2⟩ := zq3 BK686
                    have p706 : 0 ≤ (x62_2 : Int) := of_decide_eq_true (by first | (with_reducible assumption) | assumption)
                    have q706 : x62_2 < (t682.length : Int) := of_decide_eq_true (by first | (with_reducible assumption) | assumption)
                    obtain ⟨ad706, e706, hx706_0⟩ := Kd.at_int (Kd.R_reads' HO_687002.out).2.2 x62_2 p706 q706
                    cases e706
                    replace p706 := eq_true p706
                    replace q706 := eq_true q706
                    go_wp2
                    go_meet
                    case rel => exact ⟨_, (((rd t682 x62_2) != 0)), (by first | rfl | (simp; done) | (simp [*]; done)), H', ⟨by have := HJ7.out; have := HK2.out; first | omega | exact Nat.le_refl _⟩, ⟨by exact zr0 HO_679002⟩, ⟨by exact zr0 HO_687002⟩, ⟨by exact zk0 BK670⟩, ⟨by exact zk0 BK671⟩, ⟨by exact zk0 BK678⟩, ⟨by exact zk0 BK686⟩, ⟨by exact zb0 HB⟩⟩
                  ·rw [if_neg c105] at H
                   exact absurd H (by simp)
                 ·rw [if_neg c104] at H
                  have c104b0 : decide (a2 < t689) = false := decide_eq_false c104
                  clear c104
                  as_aux_lemma =>
                   have H' := Aside0.mk H
                   clear H
                   obtain ⟨hcz108_0, hcz108_1, hcz108_2, hfz108_0, hfz108_1, hfz108_2⟩ := zq3 BK678
                   have p690 : 0 ≤ (x62_2 : Int) := of_decide_eq_true (by first | (with_reducible assumption) | assumption)
                   have q690 : x62_2 < (t674.length : Int) := of_decide_eq_true (by first | (with_reducible assumption) | assumption)
                   obtain ⟨ad690, e690, hx690_0⟩ := Kd.at_int (Kd.R_reads' HO_679002.out).2.2 x62_2 p690 q690
                   cases e690
                   replace p690 := eq_true p690
                   replace q690 := eq_true q690
                   have p691 : 0 ≤ (x62_2 : Int) := of_decide_eq_true (by first | (with_reducible assumption) | assumption)
                   have q691 : x62_2 < (t674.length : Int) := of_decide_eq_true (by first | (with_reducible assumption) | assumption)
                   obtain ⟨ad691, e691, hx691_0⟩ := Kd.at_int (Kd.R_reads' HO_679002.out).2.2 x62_2 p691 q691
                   obtain rfl : ad690 = ad691 := (by injection e691)
                   replace p691 := eq_true p691
                   replace q691 := eq_true q691
                   go_wp2
                   go_meet
                   case rel => exact ⟨_, (false), (by first | rfl | (simp; done) | (simp [*]; done)), H', ⟨by have := HJ7.out; have := HK2.out; first | omega | exact Nat.le_refl _⟩, ⟨by exact zr0 HO_679002⟩, ⟨by exact zr0 HO_687002⟩, ⟨by exact zk0 BK670⟩, ⟨by exact zk0 BK671⟩, ⟨by exact zk0 BK678⟩, ⟨by exact zk0 BK686⟩, ⟨by exact zb0 HB⟩⟩
           ·rw [if_neg c45] at H
            exact absurd H (by simp)
          case rest =>
           clear HC42
           try clear c1
           try clear p2
           try clear q3
           try clear c4
           try clear c5
           try clear c6
           try clear p6
           try clear q6
           try clear hx6
           try clear c7
           try clear p7
           try clear q7
           try clear hx7
           try clear c8
           try clear c9
           try clear c10
           try clear c45
           try clear c50
           try clear c50b0
           try clear c55
           try clear c55b0
           try clear c67
           try clear c67b0
           try clear c68
           try clear c68b0
           try clear p69
           try clear q69
           try clear hx69
           try clear p70
           try clear q70
           try clear hx70
           try clear c72
           try clear c72b0
           try clear c73
           try clear c73b0
           try clear c73b1
           try clear c74
           try clear c74b0
           try clear c75
           try clear c75b0
           try clear c75b1
           try clear c76
           try clear c76b0
           try clear c77
           try clear c77b0
           try clear c77b1
           try clear c78
           try clear c78b0
           try clear c86
           try clear c86b0
           try clear c87
           try clear c87b0
           try clear c92
           try clear c92b0
           try clear c93
           try clear c93b0
           try clear c93b1
           try clear c94
           try clear c94b0
           try clear c95
           try clear c95b0
           try clear c95b1
           try clear c96
           try clear c96b0
           try clear c104
           try clear c104b0
           try clear c105
           try clear c105b0
           try clear hcz100_0
           try clear hcz100_1
           try clear hcz100_2
           try clear hcz101_0
           try clear hcz101_1
           try clear hcz101_2
           try clear hcz102_0
           try clear hcz102_1
           try clear hcz102_2
           try clear hcz103_0
           try clear hcz103_1
           try clear hcz103_2
           try clear hcz106_0
           try clear hcz106_1
           try clear hcz106_2
           try clear hcz107_0
           try clear hcz107_1
           try clear hcz107_2
           try clear hcz108_0
           try clear hcz108_1
           try clear hcz108_2
           try clear hcz69_0
           try clear hcz69_1
           try clear hcz69_2
           try clear hcz70_0
           try clear hcz70_1
           try clear hcz70_2
           try clear hcz71_0
           try clear hcz71_1
           try clear hcz71_2
           try clear hcz79_0
           try clear hcz79_1
           try clear hcz79_2
           try clear hcz80_0
           try clear hcz80_1
           try clear hcz80_2
           try clear hcz81_0
           try clear hcz81_1
           try clear hcz81_2
           try clear hcz82_0
           try clear hcz82_1
           try clear hcz82_2
           try clear hcz83_0
           try clear hcz83_1
           try clear hcz83_2
           try clear hcz84_0
           try clear hcz84_1
           try clear hcz84_2
           try clear hcz85_0
           try clear hcz85_1
           try clear hcz85_2
           try clear hcz88_0
           try clear hcz88_1
           try clear hcz88_2
           try clear hcz89_0
           try clear hcz89_1
           try clear hcz89_2
           try clear hcz90_0
           try clear hcz90_1
           try clear hcz90_2
           try clear hcz91_0
           try clear hcz91_1
           try clear hcz91_2
           try clear hcz97_0
           try clear hcz97_1
           try clear hcz97_2
           try clear hcz98_0
           try clear hcz98_1
           try clear hcz98_2
           try clear hcz99_0
           try clear hcz99_1
           try clear hcz99_2
           try clear hfz100_0
           try clear hfz100_1
           try clear hfz100_2
           try clear hfz101_0
           try clear hfz101_1
           try clear hfz101_2
           try clear hfz102_0
           try clear hfz102_1
           try clear hfz102_2
           try clear hfz103_0
           try clear hfz103_1
           try clear hfz103_2
           try clear hfz106_0
           try clear hfz106_1
           try clear hfz106_2
           try clear hfz107_0
           try clear hfz107_1
           try clear hfz107_2
           try clear hfz108_0
           try clear hfz108_1
           try clear hfz108_2
           try clear hfz69_0
           try clear hfz69_1
           try clear hfz69_2
           try clear hfz70_0
           try clear hfz70_1
           try clear hfz70_2
           try clear hfz71_0
           try clear hfz71_1
           try clear hfz71_2
           try clear hfz79_0
           try clear hfz79_1
           try clear hfz79_2
           try clear hfz80_0
           try clear hfz80_1
           try clear hfz80_2
           try clear hfz81_0
           try clear hfz81_1
           try clear hfz81_2
           try clear hfz82_0
           try clear hfz82_1
           try clear hfz82_2
           try clear hfz83_0
           try clear hfz83_1
           try clear hfz83_2
           try clear hfz84_0
           try clear hfz84_1
           try clear hfz84_2
           try clear hfz85_0
           try clear hfz85_1
           try clear hfz85_2
           try clear hfz88_0
           try clear hfz88_1
           try clear hfz88_2
           try clear hfz89_0
           try clear hfz89_1
           try clear hfz89_2
           try clear hfz90_0
           try clear hfz90_1
           try clear hfz90_2
           try clear hfz91_0
           try clear hfz91_1
           try clear hfz91_2
           try clear hfz97_0
           try clear hfz97_1
           try clear hfz97_2
           try clear hfz98_0
           try clear hfz98_1
           try clear hfz98_2
           try clear hfz99_0
           try clear hfz99_1
           try clear hfz99_2
           try clear hx690_0
           try clear hx691_0
           try clear hx692_0
           try clear hx697_0
           try clear hx698_0
           try clear hx699_0
           try clear hx700_0
           try clear hx701_0
           try clear hx702_0
           try clear hx703_0
           try clear hx704_0
           try clear hx705_0
           try clear hx706_0
           try clear p690
           try clear p691
           try clear p692
           try clear p697
           try clear p698
           try clear p699
           try clear p700
           try clear p701
           try clear p702
           try clear p703
           try clear p704
           try clear p705
           try clear p706
           try clear q690
           try clear q691
           try clear q692
           try clear q697
           try clear q698
           try clear q699
           try clear q700
           try clear q701
           try clear q702
           try clear q703
           try clear q704
           try clear q705
           try clear q706
           obtain ⟨kq, x150_41, rfl, HA, HJ41, HO_679002, HO_687002, BK670, BK671, BK678, BK686, HB⟩ := hcut
           cases kq with
           | zero => exact absurd HA.out (by simp [imageeditorlaw24_WandSoftens.j2])
           | succ kj41 =>
            have H := HA.out
            clear HA
            simp only [imageeditorlaw24_WandSoftens.j2] at H
            by_cases c109 : x150_41 = true
            ·subst c109
             have H1 : (some false) = some r := by rw [if_pos rfl] at H; exact H
             clear H
             have H := H1
             clear H1
             as_aux_lemma =>
              exact absurd HT.out (by rw [← Option.some.inj H]; decide)
            ·replace c109 := Bool.eq_false_iff.mpr c109
             subst c109
             have H1 : (imageeditorlaw24_WandSoftens.l0 kj41 a2 a3 (l0_2.length : Int) (wrap64 (x62_2 + 1)) a0_0 a0_1 l0_2 a1_0 a1_1 a1_2 a1_3 t672 t673 t674 t680 t681 t682) = some r := by rw [if_neg (show ¬ (false = true) by decide)] at H; exact H
             clear H
             have H := H1
             clear H1
             as_aux_lemma =>
              have H' := Aside0.mk H
              clear H
              go_wp2
              go_roundg kj41
              case measure => have := HJ7.out; have := HK2.out; have := HJ41.out; omega
              case rel => exact ⟨(wrap64 (x62_2 + 1)), (by first | rfl | (simp; done) | (simp [*]; done)), H', ⟨by have := HJ7.out; have := HK2.out; have := HJ41.out; omega⟩, ⟨by exact zr0 HO_679002⟩, ⟨by exact zr0 HO_687002⟩, ⟨by exact zk0 BK670⟩, ⟨by exact zk0 BK671⟩, ⟨by exact zk0 BK678⟩, ⟨by exact zk0 BK686⟩, ⟨by exact zb0 HB⟩⟩
         ·rw [if_neg c40] at H
          exact absurd H (by simp)
        ·rw [if_neg c39] at H
         exact absurd H (by simp)
       ·rw [if_neg c38] at H
        have c38b0 : decide (x62_2 < (l0_2.length : Int)) = false := decide_eq_false c38
        clear c38
        replace H := Option.bind_eq_some_iff.mp H
        obtain ⟨t687, A1100, H⟩ := H
        replace H : (some t687) = some r := H
        have A110 := Aside0.mk A1100
        clear A1100
        as_aux_lemma =>
         obtain rfl := Option.some.inj H
         (try clear HO_679002)
         (try clear HO_687002)
         (try clear BK670)
         (try clear BK671)
         (try clear BK678)
         (try clear BK686)
         go_wp2_with (first | ((with_reducible refine gate_callee (f := 12) rfl ?_); refine goesL_ (some 152) rfl rfl Try.func12 (by kernel_rfl) rfl #[] rfl (by (try simp only [List.map_toArray, List.map_cons, List.map_nil]); first | done | rfl | (simp only [List.length_drop, List.length_take]; rfl)) ?_; (with_reducible refine (imageeditorlaw24_awake.calls k2  t687 _ A110.out).mono ?_); rintro e w111 ⟨rfl, hb⟩; refine ⟨_, rfl, ?_⟩; replace HB := zb HB hb; (try clear hb); (try clear hb2); (try clear hk); (try clear hi)))
         go_ret
         exact ⟨by first | rfl | (simp [errW_none, errW_some] <;> rfl) | (simp [*, errW_none, errW_some] <;> rfl), by exact zb0 HB⟩
 ·rw [if_neg c6] at H
  have c6b0 : (t677 == 0) = false := beq_eq_false_iff_ne.mpr c6
  have c6b1 : (t677 != 0) = true := bne_iff_ne.mpr c6
  by_cases c112 : (t674.length : Int) = 0
  ·rw [if_pos c112] at H
   have c112b0 : ((t674.length : Int) == 0) = true := beq_iff_eq.mpr c112
   have c112b1 : ((t674.length : Int) != 0) = false := bne_eq_false_iff_eq.mpr c112
   clear c112
   replace H := Option.bind_eq_some_iff.mp H
   obtain ⟨t679, A1130, H⟩ := H
   replace H : (some t679) = some r := H
   have A113 := Aside0.mk A1130
   clear A1130
   as_aux_lemma =>
    obtain rfl := Option.some.inj H
    go_enter Try.func7, Try.ntmps7
    go_wp2_with (first | ((with_reducible refine gate_dst (N := 4) rfl ?_); (try (refine gate_guard (by rfl) ?_; dsimp only)); refine box_event ?hg (N := 4) ?hd (cs := #[.int .i64 a0_0, .int .i64 a0_1, .slice A0_2 l0_2.length c0_2]) (t := 24) ?hr ?_; (case hd => rfl); (case hg => rfl); (case hr => first | (go_simp; done) | (go_simp; rfl)); intro gb670 hg w114 hbox hb; have GW670 := zg HB hg; have GE670 := zg HB hg; have n0_ := Aside0.mk (hbox); replace HB := zb HB hb; have BK670 := n0_; clear n0_; clear hb hbox hg) | ((with_reducible refine gate_dst (N := 5) rfl ?_); (try (refine gate_guard (by rfl) ?_; dsimp only)); refine box_event ?hg (N := 5) ?hd (cs := #[.int .i64 a1_0, .int .i64 a1_1, .int .i64 a1_2, .int .i64 a1_3]) (t := 37) ?hr ?_; (case hd => rfl); (case hg => rfl); (case hr => first | (go_simp; done) | (go_simp; rfl)); intro gb671 hg w115 hbox hb; have GW671 := zg HB hg; have GE671 := zg HB hg; have NB670_671 := zn BK670 hg; have NB671_670 := zn' BK670 hg; have n0_ := Aside0.mk (hbox); replace BK670 := zk BK670 hb; replace HB := zb HB hb; have BK671 := n0_; clear n0_; clear hb hbox hg; have hnb116 := NB670_671.out; have hnc116 := NB671_670.out; obtain ⟨hcz117_0, hcz117_1, hcz117_2, hfz117_0, hfz117_1, hfz117_2⟩ := zq3 BK670; obtain ⟨hcz118_0, hcz118_1, hcz118_2, hcz118_3, hfz118_0, hfz118_1, hfz118_2, hfz118_3⟩ := zq4 BK671; (try clear BK670); (try clear BK671)) | ((with_reducible refine gate_callee (f := 15) rfl ?_); refine goesL_ (some 20) rfl rfl Try.func15 (by kernel_rfl) rfl #[.agg #[.int .i64 a0_0, .int .i64 a0_1, .slice A0_2 l0_2.length c0_2], .agg #[.int .i64 a1_0, .int .i64 a1_1, .int .i64 a1_2, .int .i64 a1_3], .int .i64 a2, .int .i64 a3] rfl (by (try simp only [List.map_toArray, List.map_cons, List.map_nil]); first | done | rfl | (simp only [List.length_drop, List.length_take]; rfl)) ?_; (with_reducible refine (wand_Soft.calls k a0_0 a0_1 _ _ l0_2 a1_0 a1_1 a1_2 a1_3 a2 a3 t672 t673 t674 t677 _ ?side1 ?side2 A5.out).mono ?_); (case side1 => repeat (first | exact (Kd.C_below HR0_2.out HB.out) | (with_reducible refine Kd.C_alloc ?_ _) | (with_reducible refine Kd.C_drewN ?_ _) | (with_reducible refine Kd.C_drew ?_))); (case side2 => exact HC0_2.out); rintro e w119 ⟨v675, rfl, ho0, hb⟩; refine ⟨_, rfl, ?_⟩; have HO676 := zl HB ho0; replace HB := zb HB hb; (try clear hb); (try clear hb2); (try clear hk); (try clear hi); (try clear ho0)) | ((with_reducible refine gate_dst (N := 9) rfl ?_); (try (refine gate_guard (by rfl) ?_; dsimp only)); refine box_event ?hg (N := 9) ?hd (cs := #[.int .i64 0, .int .i64 0, .slice none 0 0]) (t := 29) ?hr ?_; (case hd => rfl); (case hg => rfl); (case hr => first | (go_simp; done) | (go_simp; rfl)); intro gb678 hg w120 hbox hb; have GW678 := zg HB hg; have GE678 := zg HB hg; have n0_ := Aside0.mk (hbox); replace HO676 := zr HO676 hb; replace HB := zb HB hb; have BK678 := n0_; clear n0_; clear hb hbox hg; obtain ⟨hcz121_0, hcz121_1, hcz121_2, hfz121_0, hfz121_1, hfz121_2⟩ := zq3 BK678; obtain ⟨Ao122, co122, eo122⟩ := Kd.R_slice HO676.out; subst eo122) | (go_at_call 12; (with_reducible refine (imageeditorlaw24_awake.calls k  t679 _ A113.out).mono ?_); rintro e w123 ⟨rfl, hb⟩; have n0_ := Aside0.mk (Kd.R_below (by exact zro HO676 BK678 (by decide)) hb); have n1_ := Aside0.mk (blk_below (g := gb678) (o := .cells #[.int .i64 t672, .int .i64 t673, .slice Ao122 t674.length co122] 29 (0, 0)) (by exact zp BK678 rfl) hb); have n2_ := Aside0.mk (below_step (by exact zbo HB GE678) hb); clear HO676; clear BK678; clear HB; have HO676 := n0_; have BK678 := n1_; have HB := n2_; clear n0_ n1_ n2_; (try clear hb); (try clear hb2); (try clear hk); (try clear hi)))
    go_ret
    exact ⟨by first | rfl | (simp [errW_none, errW_some] <;> rfl) | (simp [*, errW_none, errW_some] <;> rfl), by exact zb0 HB⟩
  ·rw [if_neg c112] at H
   have c112b0 : ((t674.length : Int) == 0) = false := beq_eq_false_iff_ne.mpr c112
   have c112b1 : ((t674.length : Int) != 0) = true := bne_iff_ne.mpr c112
   have c112b2 : ¬ (t674 = []) := fun h_ => c112 (by rw [h_]; rfl)
   as_aux_lemma =>
    exact absurd HT.out (by rw [← Option.some.inj H]; decide)

end Go.Proofs.Ytmmncannibnklaa.G
