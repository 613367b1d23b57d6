-- Written by a program of this session (wip/gx.py over the kit's print); Lean checks it.
import Derived.Test.YtmmncannibnklaaG0
import Derived.Test.YtmmncannibnklaaG3
import Derived.Test.YtmmncannibnklaaG5
import Derived.Test.YtmmncannibnklaaG6
import Derived.Test.YtmmncannibnklaaG14
namespace Go.Proofs.Ytmmncannibnklaa.G
open Go.RowKit Go.Proofs.YtmmncannibnklaaW.PrintWords Go.Proofs.YtmmncannibnklaaW.PrintLast Go.Proofs.YtmmncannibnklaaW.PrintMore
attribute [local go_sem] max2_int min2_int max_two min_two max_three min_three max_four min_four   -- for this text's walks alone
set_option linter.unusedVariables false
set_option linter.unusedSimpArgs false

/-! ### imageeditorlaw24_WandCloses: function 5 -/
mutual
def imageeditorlaw24_WandCloses.j0 : Nat → Int → Bool → Bool → Int → Int → List (S37) → Int → Int → Int → Int → List Int → Option (Bool)
 | 0, _, _, _, _, _, _, _, _, _, _, _ => none
 | k + 1, x2, x3, x85, x603000, x603001, x603002, x604000, x604001, x611000, x611001, x611002 => if x85 = true then (some false) else (if 0 ≤ (wrap64 ((wrap64 (x604001 * x603000)) + x604000)) then (if (wrap64 ((wrap64 (x604001 * x603000)) + x604000)) < (x611002.length : Int) then (if (rd x611002 (wrap64 ((wrap64 (x604001 * x603000)) + x604000))) = 65535 then (imageeditorlaw24_WandCloses.l0 k x2 x3 (wrap64 ((wrap64 (x604001 * x603000)) + x604000)) (x611002.length : Int) 0 x603000 x603001 x603002 x611000 x611001 x611002) else (some false)) else (none)) else (none))
def imageeditorlaw24_WandCloses.l0 : Nat → Int → Bool → Int → Int → Int → Int → Int → List (S37) → Int → Int → List Int → Option (Bool)
 | 0, _, _, _, _, _, _, _, _, _, _, _ => none
 | k + 1, x2, x3, x11, x102, x103, x603000, x603001, x603002, x611000, x611001, x611002 => if x103 < x102 then (if 0 ≤ x103 then (if x103 < (x603002.length : Int) then (if 0 ≤ x11 then (if x11 < (x603002.length : Int) then ((pixel_Dist.f ((rd_T37 x603002 x103).f0) ((rd_T37 x603002 x103).f1) ((rd_T37 x603002 x103).f2) ((rd_T37 x603002 x103).f3) ((rd_T37 x603002 x11).f0) ((rd_T37 x603002 x11).f1) ((rd_T37 x603002 x11).f2) ((rd_T37 x603002 x11).f3)).bind fun t617 => (if x103 < (x611002.length : Int) then (if (rd x611002 x103) = 0 then (imageeditorlaw24_WandCloses.j2 k x2 x3 x11 x103 t617 x102 x103 false x603000 x603001 x603002 x611000 x611001 x611002) else (if (rd x611002 x103) = 65535 then (imageeditorlaw24_WandCloses.j2 k x2 x3 x11 x103 t617 x102 x103 (decide (t617 > x2)) x603000 x603001 x603002 x611000 x611001 x611002) else (imageeditorlaw24_WandCloses.j2 k x2 x3 x11 x103 t617 x102 x103 true x603000 x603001 x603002 x611000 x611001 x611002))) else (none))) else (none)) else (none)) else (none)) else (none)) else ((imageeditorlaw24_awake.f k).bind fun t614 => (some t614))
def imageeditorlaw24_WandCloses.j2 : Nat → Int → Bool → Int → Int → Int → Int → Int → Bool → Int → Int → List (S37) → Int → Int → List Int → Option (Bool)
 | 0, _, _, _, _, _, _, _, _, _, _, _, _, _, _ => none
 | k + 1, x2, x3, x11, x12, x13, x102, x103, x135, x603000, x603001, x603002, x611000, x611001, x611002 => if x135 = true then (some false) else (if 0 ≤ x12 then (if x12 < (x611002.length : Int) then (if (rd x611002 x12) = 0 then (imageeditorlaw24_WandCloses.j3 k x2 x3 x11 x12 x102 x103 (decide (x13 > x2)) x603000 x603001 x603002 x611000 x611001 x611002) else (imageeditorlaw24_WandCloses.j3 k x2 x3 x11 x12 x102 x103 true x603000 x603001 x603002 x611000 x611001 x611002)) else (none)) else (none))
def imageeditorlaw24_WandCloses.j3 : Nat → Int → Bool → Int → Int → Int → Int → Bool → Int → Int → List (S37) → Int → Int → List Int → Option (Bool)
 | 0, _, _, _, _, _, _, _, _, _, _, _, _, _ => none
 | k + 1, x2, x3, x11, x12, x102, x103, x146, x603000, x603001, x603002, x611000, x611001, x611002 => if x146 = true then (imageeditorlaw24_WandCloses.l0 k x2 x3 x11 x102 (wrap64 (x103 + 1)) x603000 x603001 x603002 x611000 x611001 x611002) else (if x603000 = 0 then (none) else (imageeditorlaw24_WandCloses.l1 k x2 x3 x11 (Int.tmod x12 x603000) (wrap64 (Int.tdiv x12 x603000)) x102 x103 0 x603000 x603001 x603002 x611000 x611001 x611002))
def imageeditorlaw24_WandCloses.l1 : Nat → Int → Bool → Int → Int → Int → Int → Int → Int → Int → Int → List (S37) → Int → Int → List Int → Option (Bool)
 | 0, _, _, _, _, _, _, _, _, _, _, _, _, _, _ => none
 | k + 1, x2, x3, x11, x14, x15, x102, x103, x155, x603000, x603001, x603002, x611000, x611001, x611002 => if x155 < 9 then (if (wrap64 ((wrap64 (x14 + (Int.tmod x155 3))) - 1)) ≥ 0 then (if (wrap64 ((wrap64 (x15 + (wrap64 (Int.tdiv x155 3)))) - 1)) ≥ 0 then (if (wrap64 ((wrap64 (x14 + (Int.tmod x155 3))) - 1)) < x603000 then (if (wrap64 ((wrap64 (x15 + (wrap64 (Int.tdiv x155 3)))) - 1)) < x603001 then (if x3 = true then (if 0 ≤ (wrap64 ((wrap64 ((wrap64 ((wrap64 (x15 + (wrap64 (Int.tdiv x155 3)))) - 1)) * x603000)) + (wrap64 ((wrap64 (x14 + (Int.tmod x155 3))) - 1)))) then (if (wrap64 ((wrap64 ((wrap64 ((wrap64 (x15 + (wrap64 (Int.tdiv x155 3)))) - 1)) * x603000)) + (wrap64 ((wrap64 (x14 + (Int.tmod x155 3))) - 1)))) < (x611002.length : Int) then (if (rd x611002 (wrap64 ((wrap64 ((wrap64 ((wrap64 (x15 + (wrap64 (Int.tdiv x155 3)))) - 1)) * x603000)) + (wrap64 ((wrap64 (x14 + (Int.tmod x155 3))) - 1))))) = 0 then (imageeditorlaw24_WandCloses.l1 k x2 x3 x11 x14 x15 x102 x103 (wrap64 (x155 + 1)) x603000 x603001 x603002 x611000 x611001 x611002) else (some false)) else (none)) else (none)) else (if (wrap64 ((wrap64 (x14 + (Int.tmod x155 3))) - 1)) = x14 then (if 0 ≤ (wrap64 ((wrap64 ((wrap64 ((wrap64 (x15 + (wrap64 (Int.tdiv x155 3)))) - 1)) * x603000)) + (wrap64 ((wrap64 (x14 + (Int.tmod x155 3))) - 1)))) then (if (wrap64 ((wrap64 ((wrap64 ((wrap64 (x15 + (wrap64 (Int.tdiv x155 3)))) - 1)) * x603000)) + (wrap64 ((wrap64 (x14 + (Int.tmod x155 3))) - 1)))) < (x611002.length : Int) then (if (rd x611002 (wrap64 ((wrap64 ((wrap64 ((wrap64 (x15 + (wrap64 (Int.tdiv x155 3)))) - 1)) * x603000)) + (wrap64 ((wrap64 (x14 + (Int.tmod x155 3))) - 1))))) = 0 then (imageeditorlaw24_WandCloses.l1 k x2 x3 x11 x14 x15 x102 x103 (wrap64 (x155 + 1)) x603000 x603001 x603002 x611000 x611001 x611002) else (some false)) else (none)) else (none)) else (if (wrap64 ((wrap64 (x15 + (wrap64 (Int.tdiv x155 3)))) - 1)) = x15 then (if 0 ≤ (wrap64 ((wrap64 ((wrap64 ((wrap64 (x15 + (wrap64 (Int.tdiv x155 3)))) - 1)) * x603000)) + (wrap64 ((wrap64 (x14 + (Int.tmod x155 3))) - 1)))) then (if (wrap64 ((wrap64 ((wrap64 ((wrap64 (x15 + (wrap64 (Int.tdiv x155 3)))) - 1)) * x603000)) + (wrap64 ((wrap64 (x14 + (Int.tmod x155 3))) - 1)))) < (x611002.length : Int) then (if (rd x611002 (wrap64 ((wrap64 ((wrap64 ((wrap64 (x15 + (wrap64 (Int.tdiv x155 3)))) - 1)) * x603000)) + (wrap64 ((wrap64 (x14 + (Int.tmod x155 3))) - 1))))) = 0 then (imageeditorlaw24_WandCloses.l1 k x2 x3 x11 x14 x15 x102 x103 (wrap64 (x155 + 1)) x603000 x603001 x603002 x611000 x611001 x611002) else (some false)) else (none)) else (none)) else (imageeditorlaw24_WandCloses.l1 k x2 x3 x11 x14 x15 x102 x103 (wrap64 (x155 + 1)) x603000 x603001 x603002 x611000 x611001 x611002)))) else (imageeditorlaw24_WandCloses.l1 k x2 x3 x11 x14 x15 x102 x103 (wrap64 (x155 + 1)) x603000 x603001 x603002 x611000 x611001 x611002)) else (imageeditorlaw24_WandCloses.l1 k x2 x3 x11 x14 x15 x102 x103 (wrap64 (x155 + 1)) x603000 x603001 x603002 x611000 x611001 x611002)) else (imageeditorlaw24_WandCloses.l1 k x2 x3 x11 x14 x15 x102 x103 (wrap64 (x155 + 1)) x603000 x603001 x603002 x611000 x611001 x611002)) else (imageeditorlaw24_WandCloses.l1 k x2 x3 x11 x14 x15 x102 x103 (wrap64 (x155 + 1)) x603000 x603001 x603002 x611000 x611001 x611002)) else (imageeditorlaw24_WandCloses.l0 k x2 x3 x11 x102 (wrap64 (x103 + 1)) x603000 x603001 x603002 x611000 x611001 x611002)
end
def imageeditorlaw24_WandCloses.f (k : Nat) (a0_0 : Int) (a0_1 : Int) (l0_2 : List (S37)) (a1_0 : Int) (a1_1 : Int) (a2 : Int) (a3 : Bool) : Option (Bool) := (wand_Flood.f k a0_0 a0_1 l0_2 a1_0 a1_1 a2 a3).bind fun bt604 => (if bt604.2.2.2 = 0 then ((imageeditorref11_Check.f k a0_0 a0_1 l0_2).bind fun t612 => (if t612 = 0 then (if a1_0 < 0 then (imageeditorlaw24_WandCloses.j0 k a2 a3 true a0_0 a0_1 l0_2 a1_0 a1_1 bt604.1 bt604.2.1 bt604.2.2.1) else (if a1_0 ≥ a0_0 then (imageeditorlaw24_WandCloses.j0 k a2 a3 true a0_0 a0_1 l0_2 a1_0 a1_1 bt604.1 bt604.2.1 bt604.2.2.1) else (if a1_1 < 0 then (imageeditorlaw24_WandCloses.j0 k a2 a3 true a0_0 a0_1 l0_2 a1_0 a1_1 bt604.1 bt604.2.1 bt604.2.2.1) else (if a1_1 ≥ a0_1 then (imageeditorlaw24_WandCloses.j0 k a2 a3 true a0_0 a0_1 l0_2 a1_0 a1_1 bt604.1 bt604.2.1 bt604.2.2.1) else (if bt604.1 = a0_0 then (if bt604.2.1 = a0_1 then (imageeditorlaw24_WandCloses.j0 k a2 a3 ((bt604.2.2.1.length : Int) != (l0_2.length : Int)) a0_0 a0_1 l0_2 a1_0 a1_1 bt604.1 bt604.2.1 bt604.2.2.1) else (imageeditorlaw24_WandCloses.j0 k a2 a3 true a0_0 a0_1 l0_2 a1_0 a1_1 bt604.1 bt604.2.1 bt604.2.2.1)) else (imageeditorlaw24_WandCloses.j0 k a2 a3 true a0_0 a0_1 l0_2 a1_0 a1_1 bt604.1 bt604.2.1 bt604.2.2.1)))))) else (imageeditorlaw24_WandCloses.j0 k a2 a3 true a0_0 a0_1 l0_2 a1_0 a1_1 bt604.1 bt604.2.1 bt604.2.2.1))) else (if (bt604.2.2.1.length : Int) = 0 then ((imageeditorlaw24_awake.f k).bind fun t611 => (some t611)) else (some false)))
theorem imageeditorlaw24_WandCloses.mono_l : ∀ k, (∀ y0 y1 y2 y3 y4 y5 y6 y7 y8 y9 y10, LeO (imageeditorlaw24_WandCloses.j0 k y0 y1 y2 y3 y4 y5 y6 y7 y8 y9 y10) (imageeditorlaw24_WandCloses.j0 (k + 1) y0 y1 y2 y3 y4 y5 y6 y7 y8 y9 y10)) ∧ (∀ y0 y1 y2 y3 y4 y5 y6 y7 y8 y9 y10, LeO (imageeditorlaw24_WandCloses.l0 k y0 y1 y2 y3 y4 y5 y6 y7 y8 y9 y10) (imageeditorlaw24_WandCloses.l0 (k + 1) y0 y1 y2 y3 y4 y5 y6 y7 y8 y9 y10)) ∧ (∀ y0 y1 y2 y3 y4 y5 y6 y7 y8 y9 y10 y11 y12 y13, LeO (imageeditorlaw24_WandCloses.j2 k y0 y1 y2 y3 y4 y5 y6 y7 y8 y9 y10 y11 y12 y13) (imageeditorlaw24_WandCloses.j2 (k + 1) y0 y1 y2 y3 y4 y5 y6 y7 y8 y9 y10 y11 y12 y13)) ∧ (∀ y0 y1 y2 y3 y4 y5 y6 y7 y8 y9 y10 y11 y12, LeO (imageeditorlaw24_WandCloses.j3 k y0 y1 y2 y3 y4 y5 y6 y7 y8 y9 y10 y11 y12) (imageeditorlaw24_WandCloses.j3 (k + 1) y0 y1 y2 y3 y4 y5 y6 y7 y8 y9 y10 y11 y12)) ∧ (∀ y0 y1 y2 y3 y4 y5 y6 y7 y8 y9 y10 y11 y12 y13, LeO (imageeditorlaw24_WandCloses.l1 k y0 y1 y2 y3 y4 y5 y6 y7 y8 y9 y10 y11 y12 y13) (imageeditorlaw24_WandCloses.l1 (k + 1) y0 y1 y2 y3 y4 y5 y6 y7 y8 y9 y10 y11 y12 y13))
 | 0 => ⟨fun _ _ _ _ _ _ _ _ _ _ _ r h => by simp [imageeditorlaw24_WandCloses.j0] at h, fun _ _ _ _ _ _ _ _ _ _ _ r h => by simp [imageeditorlaw24_WandCloses.l0] at h, fun _ _ _ _ _ _ _ _ _ _ _ _ _ _ r h => by simp [imageeditorlaw24_WandCloses.j2] at h, fun _ _ _ _ _ _ _ _ _ _ _ _ _ r h => by simp [imageeditorlaw24_WandCloses.j3] at h, fun _ _ _ _ _ _ _ _ _ _ _ _ _ _ r h => by simp [imageeditorlaw24_WandCloses.l1] at h⟩
 | k + 1 => by
  obtain ⟨ih0, ih1, ih2, ih3, ih4⟩ := imageeditorlaw24_WandCloses.mono_l k
  refine ⟨?_, ?_, ?_, ?_, ?_⟩
  ·intro y0 y1 y2 y3 y4 y5 y6 y7 y8 y9 y10
   unfold imageeditorlaw24_WandCloses.j0
   repeat' first
   | (with_reducible exact ih0 _ _ _ _ _ _ _ _ _ _ _)
   | (with_reducible exact ih1 _ _ _ _ _ _ _ _ _ _ _)
   | (with_reducible exact ih2 _ _ _ _ _ _ _ _ _ _ _ _ _ _)
   | (with_reducible exact ih3 _ _ _ _ _ _ _ _ _ _ _ _ _)
   | (with_reducible exact ih4 _ _ _ _ _ _ _ _ _ _ _ _ _ _)
   | (with_reducible exact imageeditorlaw24_awake.mono _)
   | (with_reducible exact imageeditorref11_Check.mono _ _ _ _)
   | (with_reducible exact wand_Flood.mono _ _ _ _ _ _ _ _)
   | (with_reducible exact LeO.refl _)
   | (with_reducible exact LeO.none _)
   | (with_reducible refine LeO.ite ?_ ?_)
   | (with_reducible refine LeO.bind ?_ (fun _ => ?_))
   | exact ih0 _ _ _ _ _ _ _ _ _ _ _
   | exact ih1 _ _ _ _ _ _ _ _ _ _ _
   | exact ih2 _ _ _ _ _ _ _ _ _ _ _ _ _ _
   | exact ih3 _ _ _ _ _ _ _ _ _ _ _ _ _
   | exact ih4 _ _ _ _ _ _ _ _ _ _ _ _ _ _
   | exact imageeditorlaw24_awake.mono _
   | exact imageeditorref11_Check.mono _ _ _ _
   | exact wand_Flood.mono _ _ _ _ _ _ _ _
   | exact LeO.none _
   | refine LeO.ite ?_ ?_
   | refine LeO.bind ?_ (fun _ => ?_)
  ·intro y0 y1 y2 y3 y4 y5 y6 y7 y8 y9 y10
   unfold imageeditorlaw24_WandCloses.l0
   repeat' first
   | (with_reducible exact ih0 _ _ _ _ _ _ _ _ _ _ _)
   | (with_reducible exact ih1 _ _ _ _ _ _ _ _ _ _ _)
   | (with_reducible exact ih2 _ _ _ _ _ _ _ _ _ _ _ _ _ _)
   | (with_reducible exact ih3 _ _ _ _ _ _ _ _ _ _ _ _ _)
   | (with_reducible exact ih4 _ _ _ _ _ _ _ _ _ _ _ _ _ _)
   | (with_reducible exact imageeditorlaw24_awake.mono _)
   | (with_reducible exact imageeditorref11_Check.mono _ _ _ _)
   | (with_reducible exact wand_Flood.mono _ _ _ _ _ _ _ _)
   | (with_reducible exact LeO.refl _)
   | (with_reducible exact LeO.none _)
   | (with_reducible refine LeO.ite ?_ ?_)
   | (with_reducible refine LeO.bind ?_ (fun _ => ?_))
   | exact ih0 _ _ _ _ _ _ _ _ _ _ _
   | exact ih1 _ _ _ _ _ _ _ _ _ _ _
   | exact ih2 _ _ _ _ _ _ _ _ _ _ _ _ _ _
   | exact ih3 _ _ _ _ _ _ _ _ _ _ _ _ _
   | exact ih4 _ _ _ _ _ _ _ _ _ _ _ _ _ _
   | exact imageeditorlaw24_awake.mono _
   | exact imageeditorref11_Check.mono _ _ _ _
   | exact wand_Flood.mono _ _ _ _ _ _ _ _
   | exact LeO.none _
   | refine LeO.ite ?_ ?_
   | refine LeO.bind ?_ (fun _ => ?_)
  ·intro y0 y1 y2 y3 y4 y5 y6 y7 y8 y9 y10 y11 y12 y13
   unfold imageeditorlaw24_WandCloses.j2
   repeat' first
   | (with_reducible exact ih0 _ _ _ _ _ _ _ _ _ _ _)
   | (with_reducible exact ih1 _ _ _ _ _ _ _ _ _ _ _)
   | (with_reducible exact ih2 _ _ _ _ _ _ _ _ _ _ _ _ _ _)
   | (with_reducible exact ih3 _ _ _ _ _ _ _ _ _ _ _ _ _)
   | (with_reducible exact ih4 _ _ _ _ _ _ _ _ _ _ _ _ _ _)
   | (with_reducible exact imageeditorlaw24_awake.mono _)
   | (with_reducible exact imageeditorref11_Check.mono _ _ _ _)
   | (with_reducible exact wand_Flood.mono _ _ _ _ _ _ _ _)
   | (with_reducible exact LeO.refl _)
   | (with_reducible exact LeO.none _)
   | (with_reducible refine LeO.ite ?_ ?_)
   | (with_reducible refine LeO.bind ?_ (fun _ => ?_))
   | exact ih0 _ _ _ _ _ _ _ _ _ _ _
   | exact ih1 _ _ _ _ _ _ _ _ _ _ _
   | exact ih2 _ _ _ _ _ _ _ _ _ _ _ _ _ _
   | exact ih3 _ _ _ _ _ _ _ _ _ _ _ _ _
   | exact ih4 _ _ _ _ _ _ _ _ _ _ _ _ _ _
   | exact imageeditorlaw24_awake.mono _
   | exact imageeditorref11_Check.mono _ _ _ _
   | exact wand_Flood.mono _ _ _ _ _ _ _ _
   | exact LeO.none _
   | refine LeO.ite ?_ ?_
   | refine LeO.bind ?_ (fun _ => ?_)
  ·intro y0 y1 y2 y3 y4 y5 y6 y7 y8 y9 y10 y11 y12
   unfold imageeditorlaw24_WandCloses.j3
   repeat' first
   | (with_reducible exact ih0 _ _ _ _ _ _ _ _ _ _ _)
   | (with_reducible exact ih1 _ _ _ _ _ _ _ _ _ _ _)
   | (with_reducible exact ih2 _ _ _ _ _ _ _ _ _ _ _ _ _ _)
   | (with_reducible exact ih3 _ _ _ _ _ _ _ _ _ _ _ _ _)
   | (with_reducible exact ih4 _ _ _ _ _ _ _ _ _ _ _ _ _ _)
   | (with_reducible exact imageeditorlaw24_awake.mono _)
   | (with_reducible exact imageeditorref11_Check.mono _ _ _ _)
   | (with_reducible exact wand_Flood.mono _ _ _ _ _ _ _ _)
   | (with_reducible exact LeO.refl _)
   | (with_reducible exact LeO.none _)
   | (with_reducible refine LeO.ite ?_ ?_)
   | (with_reducible refine LeO.bind ?_ (fun _ => ?_))
   | exact ih0 _ _ _ _ _ _ _ _ _ _ _
   | exact ih1 _ _ _ _ _ _ _ _ _ _ _
   | exact ih2 _ _ _ _ _ _ _ _ _ _ _ _ _ _
   | exact ih3 _ _ _ _ _ _ _ _ _ _ _ _ _
   | exact ih4 _ _ _ _ _ _ _ _ _ _ _ _ _ _
   | exact imageeditorlaw24_awake.mono _
   | exact imageeditorref11_Check.mono _ _ _ _
   | exact wand_Flood.mono _ _ _ _ _ _ _ _
   | exact LeO.none _
   | refine LeO.ite ?_ ?_
   | refine LeO.bind ?_ (fun _ => ?_)
  ·intro y0 y1 y2 y3 y4 y5 y6 y7 y8 y9 y10 y11 y12 y13
   unfold imageeditorlaw24_WandCloses.l1
   repeat' first
   | (with_reducible exact ih0 _ _ _ _ _ _ _ _ _ _ _)
   | (with_reducible exact ih1 _ _ _ _ _ _ _ _ _ _ _)
   | (with_reducible exact ih2 _ _ _ _ _ _ _ _ _ _ _ _ _ _)
   | (with_reducible exact ih3 _ _ _ _ _ _ _ _ _ _ _ _ _)
   | (with_reducible exact ih4 _ _ _ _ _ _ _ _ _ _ _ _ _ _)
   | (with_reducible exact imageeditorlaw24_awake.mono _)
   | (with_reducible exact imageeditorref11_Check.mono _ _ _ _)
   | (with_reducible exact wand_Flood.mono _ _ _ _ _ _ _ _)
   | (with_reducible exact LeO.refl _)
   | (with_reducible exact LeO.none _)
   | (with_reducible refine LeO.ite ?_ ?_)
   | (with_reducible refine LeO.bind ?_ (fun _ => ?_))
   | exact ih0 _ _ _ _ _ _ _ _ _ _ _
   | exact ih1 _ _ _ _ _ _ _ _ _ _ _
   | exact ih2 _ _ _ _ _ _ _ _ _ _ _ _ _ _
   | exact ih3 _ _ _ _ _ _ _ _ _ _ _ _ _
   | exact ih4 _ _ _ _ _ _ _ _ _ _ _ _ _ _
   | exact imageeditorlaw24_awake.mono _
   | exact imageeditorref11_Check.mono _ _ _ _
   | exact wand_Flood.mono _ _ _ _ _ _ _ _
   | exact LeO.none _
   | refine LeO.ite ?_ ?_
   | refine LeO.bind ?_ (fun _ => ?_)
theorem imageeditorlaw24_WandCloses.mono : ∀ a0 a1 a2 a3 a4 a5 a6 k, LeO (imageeditorlaw24_WandCloses.f k a0 a1 a2 a3 a4 a5 a6) (imageeditorlaw24_WandCloses.f (k + 1) a0 a1 a2 a3 a4 a5 a6) := by
 intro a0 a1 a2 a3 a4 a5 a6 k
 obtain ⟨ih0, ih1, ih2, ih3, ih4⟩ := imageeditorlaw24_WandCloses.mono_l k
 unfold imageeditorlaw24_WandCloses.f
 repeat' first
   | (with_reducible exact ih0 _ _ _ _ _ _ _ _ _ _ _)
   | (with_reducible exact ih1 _ _ _ _ _ _ _ _ _ _ _)
   | (with_reducible exact ih2 _ _ _ _ _ _ _ _ _ _ _ _ _ _)
   | (with_reducible exact ih3 _ _ _ _ _ _ _ _ _ _ _ _ _)
   | (with_reducible exact ih4 _ _ _ _ _ _ _ _ _ _ _ _ _ _)
   | (with_reducible exact imageeditorlaw24_awake.mono _)
   | (with_reducible exact imageeditorref11_Check.mono _ _ _ _)
   | (with_reducible exact wand_Flood.mono _ _ _ _ _ _ _ _)
   | (with_reducible exact LeO.refl _)
   | (with_reducible exact LeO.none _)
   | (with_reducible refine LeO.ite ?_ ?_)
   | (with_reducible refine LeO.bind ?_ (fun _ => ?_))
   | exact ih0 _ _ _ _ _ _ _ _ _ _ _
   | exact ih1 _ _ _ _ _ _ _ _ _ _ _
   | exact ih2 _ _ _ _ _ _ _ _ _ _ _ _ _ _
   | exact ih3 _ _ _ _ _ _ _ _ _ _ _ _ _
   | exact ih4 _ _ _ _ _ _ _ _ _ _ _ _ _ _
   | exact imageeditorlaw24_awake.mono _
   | exact imageeditorref11_Check.mono _ _ _ _
   | exact wand_Flood.mono _ _ _ _ _ _ _ _
   | exact LeO.none _
   | refine LeO.ite ?_ ?_
   | refine LeO.bind ?_ (fun _ => ?_)
def imageeditorlaw24_WandCloses.T12 : Bool × List (List Nat × List Nat) := (true, [([], []), ([0], [0]), ([], []), ([1, 2], [1, 2]), ([3], [3]), ([], []), ([5], [5]), ([], []), ([6, 7], [6, 7]), ([8], [8]), ([4, 9], [4, 9]), ([10, 10, 0, 1, 2, 3, 4, 5, 6, 7, 8, 9, 10], [10])])
def imageeditorlaw24_WandCloses.B12 : List Nat := [0, 1, 0, 7, 15, 0, 32, 0, 224, 480, 1023, 2047]
theorem imageeditorlaw24_WandCloses.tab12 : rtab .any (opsOf Try.f5 12) = imageeditorlaw24_WandCloses.T12 := by kernel_rfl
theorem imageeditorlaw24_WandCloses.bits12 : waitsOk imageeditorlaw24_WandCloses.T12.2 imageeditorlaw24_WandCloses.B12 = true := by kernel_rfl
def imageeditorlaw24_WandCloses.T16 : Bool × List (List Nat × List Nat) := (true, [([], []), ([], []), ([1], [1]), ([0, 2], [0, 2]), ([], []), ([], []), ([5], [5]), ([4, 6], [4, 6]), ([3, 0, 1, 2, 3], [3]), ([7, 8, 0, 1, 2, 3, 4, 5, 6, 7, 8], [7])])
def imageeditorlaw24_WandCloses.B16 : List Nat := [0, 0, 2, 7, 0, 0, 32, 112, 15, 511]
theorem imageeditorlaw24_WandCloses.tab16 : rtab .any (opsOf Try.f5 16) = imageeditorlaw24_WandCloses.T16 := by kernel_rfl
theorem imageeditorlaw24_WandCloses.bits16 : waitsOk imageeditorlaw24_WandCloses.T16.2 imageeditorlaw24_WandCloses.B16 = true := by kernel_rfl
set_option maxHeartbeats 8000000 in
set_option maxRecDepth 100000 in
theorem imageeditorlaw24_WandCloses.callsT (k : Nat) (a0_0 : Int) (a0_1 : Int) (A0_2 : Option Addr) (c0_2 : Nat) (l0_2 : List (S37)) (a1_0 : Int) (a1_1 : Int) (a2 : Int) (a3 : Bool) (r : Bool) (w : World) (hr0_2 : Kd.C k37 w A0_2 l0_2.length l0_2) (hc0_2 : l0_2.length ≤ c0_2) (hT : r = true) (h : imageeditorlaw24_WandCloses.f k a0_0 a0_1 l0_2 a1_0 a1_1 a2 a3 = some r) :
  Calls Try.prog 5 #[.agg #[.int .i64 a0_0, .int .i64 a0_1, .slice A0_2 l0_2.length c0_2], .agg #[.int .i64 a1_0, .int .i64 a1_1], .int .i64 a2, .bool a3] w fun e w' => e = .returned (.bool r) ∧ Below w.heap.size w w' := by
 have hu24 := Try.underlying24
 have hu26 := Try.underlying26
 have hu29 := Try.underlying29
 have hu37 := Try.underlying37
 have HT := Aside0.mk hT
 clear hT
 have HR0_2 := Aside0.mk hr0_2
 have HC0_2 := Aside0.mk hc0_2
 clear hr0_2 hc0_2
 have HB := Aside0.mk (Below.refl w.heap.size w)
 have H : ((wand_Flood.f k a0_0 a0_1 l0_2 a1_0 a1_1 a2 a3).bind fun bt604 => (if bt604.2.2.2 = 0 then ((imageeditorref11_Check.f k a0_0 a0_1 l0_2).bind fun t612 => (if t612 = 0 then (if a1_0 < 0 then (imageeditorlaw24_WandCloses.j0 k a2 a3 true a0_0 a0_1 l0_2 a1_0 a1_1 bt604.1 bt604.2.1 bt604.2.2.1) else (if a1_0 ≥ a0_0 then (imageeditorlaw24_WandCloses.j0 k a2 a3 true a0_0 a0_1 l0_2 a1_0 a1_1 bt604.1 bt604.2.1 bt604.2.2.1) else (if a1_1 < 0 then (imageeditorlaw24_WandCloses.j0 k a2 a3 true a0_0 a0_1 l0_2 a1_0 a1_1 bt604.1 bt604.2.1 bt604.2.2.1) else (if a1_1 ≥ a0_1 then (imageeditorlaw24_WandCloses.j0 k a2 a3 true a0_0 a0_1 l0_2 a1_0 a1_1 bt604.1 bt604.2.1 bt604.2.2.1) else (if bt604.1 = a0_0 then (if bt604.2.1 = a0_1 then (imageeditorlaw24_WandCloses.j0 k a2 a3 ((bt604.2.2.1.length : Int) != (l0_2.length : Int)) a0_0 a0_1 l0_2 a1_0 a1_1 bt604.1 bt604.2.1 bt604.2.2.1) else (imageeditorlaw24_WandCloses.j0 k a2 a3 true a0_0 a0_1 l0_2 a1_0 a1_1 bt604.1 bt604.2.1 bt604.2.2.1)) else (imageeditorlaw24_WandCloses.j0 k a2 a3 true a0_0 a0_1 l0_2 a1_0 a1_1 bt604.1 bt604.2.1 bt604.2.2.1)))))) else (imageeditorlaw24_WandCloses.j0 k a2 a3 true a0_0 a0_1 l0_2 a1_0 a1_1 bt604.1 bt604.2.1 bt604.2.2.1))) else (if (bt604.2.2.1.length : Int) = 0 then ((imageeditorlaw24_awake.f k).bind fun t611 => (some t611)) else (some false)))) = some r := h
 clear h
 replace H := Option.bind_eq_some_iff.mp H
 obtain ⟨⟨t604, t605, t606, t609⟩, A50, H⟩ := H
 replace H : (if t609 = 0 then ((imageeditorref11_Check.f k a0_0 a0_1 l0_2).bind fun t612 => (if t612 = 0 then (if a1_0 < 0 then (imageeditorlaw24_WandCloses.j0 k a2 a3 true a0_0 a0_1 l0_2 a1_0 a1_1 t604 t605 t606) else (if a1_0 ≥ a0_0 then (imageeditorlaw24_WandCloses.j0 k a2 a3 true a0_0 a0_1 l0_2 a1_0 a1_1 t604 t605 t606) else (if a1_1 < 0 then (imageeditorlaw24_WandCloses.j0 k a2 a3 true a0_0 a0_1 l0_2 a1_0 a1_1 t604 t605 t606) else (if a1_1 ≥ a0_1 then (imageeditorlaw24_WandCloses.j0 k a2 a3 true a0_0 a0_1 l0_2 a1_0 a1_1 t604 t605 t606) else (if t604 = a0_0 then (if t605 = a0_1 then (imageeditorlaw24_WandCloses.j0 k a2 a3 ((t606.length : Int) != (l0_2.length : Int)) a0_0 a0_1 l0_2 a1_0 a1_1 t604 t605 t606) else (imageeditorlaw24_WandCloses.j0 k a2 a3 true a0_0 a0_1 l0_2 a1_0 a1_1 t604 t605 t606)) else (imageeditorlaw24_WandCloses.j0 k a2 a3 true a0_0 a0_1 l0_2 a1_0 a1_1 t604 t605 t606)))))) else (imageeditorlaw24_WandCloses.j0 k a2 a3 true a0_0 a0_1 l0_2 a1_0 a1_1 t604 t605 t606))) else (if (t606.length : Int) = 0 then ((imageeditorlaw24_awake.f k).bind fun t611 => (some t611)) else (some false))) = some r := H
 have A5 := Aside0.mk A50
 clear A50
 by_cases c6 : t609 = 0
 ·rw [if_pos c6] at H
  have c6b0 : (t609 == 0) = true := beq_iff_eq.mpr c6
  have c6b1 : (t609 != 0) = false := bne_eq_false_iff_eq.mpr c6
  clear c6
  have HC7 := Aside0.mk H
  clear H
  go_enter Try.func5, Try.ntmps5
  go_upto_region 4 with (first | ((with_reducible refine gate_dst (N := 4) rfl ?_); (try (refine gate_guard (by rfl) ?_; dsimp only)); refine box_event ?hg (N := 4) ?hd (cs := #[.int .i64 a0_0, .int .i64 a0_1, .slice A0_2 l0_2.length c0_2]) (t := 24) ?hr ?_; (case hd => rfl); (case hg => rfl); (case hr => first | (go_simp; done) | (go_simp; rfl)); intro gb602 hg w8 hbox hb; have GW602 := zg HB hg; have GE602 := zg HB hg; have n0_ := Aside0.mk (hbox); replace HB := zb HB hb; have BK602 := n0_; clear n0_; clear hb hbox hg) | ((with_reducible refine gate_dst (N := 5) rfl ?_); (try (refine gate_guard (by rfl) ?_; dsimp only)); refine box_event ?hg (N := 5) ?hd (cs := #[.int .i64 a1_0, .int .i64 a1_1]) (t := 26) ?hr ?_; (case hd => rfl); (case hg => rfl); (case hr => first | (go_simp; done) | (go_simp; rfl)); intro gb603 hg w9 hbox hb; have GW603 := zg HB hg; have GE603 := zg HB hg; have NB602_603 := zn BK602 hg; have NB603_602 := zn' BK602 hg; have n0_ := Aside0.mk (hbox); replace BK602 := zk BK602 hb; replace HB := zb HB hb; have BK603 := n0_; clear n0_; clear hb hbox hg; have hnb10 := NB602_603.out; have hnc10 := NB603_602.out; obtain ⟨hcz11_0, hcz11_1, hcz11_2, hfz11_0, hfz11_1, hfz11_2⟩ := zq3 BK602; obtain ⟨hcz12_0, hcz12_1, hfz12_0, hfz12_1⟩ := zq2 BK603) | ((with_reducible refine gate_callee (f := 9) rfl ?_); refine goesL_ (some 24) rfl rfl Try.func9 (by kernel_rfl) rfl #[.agg #[.int .i64 a0_0, .int .i64 a0_1, .slice A0_2 l0_2.length c0_2], .agg #[.int .i64 a1_0, .int .i64 a1_1], .int .i64 a2, .bool a3] rfl (by (try simp only [List.map_toArray, List.map_cons, List.map_nil]); first | done | rfl | (simp only [List.length_drop, List.length_take]; rfl)) ?_; (with_reducible refine (wand_Flood.calls k a0_0 a0_1 _ _ l0_2 a1_0 a1_1 a2 a3 t604 t605 t606 t609 _ ?side1 ?side2 A5.out).mono ?_); (case side1 => repeat (first | exact (Kd.C_below HR0_2.out HB.out) | (with_reducible refine Kd.C_alloc ?_ _) | (with_reducible refine Kd.C_drewN ?_ _) | (with_reducible refine Kd.C_drew ?_))); (case side2 => exact HC0_2.out); rintro e w13 ⟨v607, rfl, ho0, hb⟩; refine ⟨_, rfl, ?_⟩; have HO608 := zl HB ho0; replace BK602 := zk BK602 hb; replace BK603 := zk BK603 hb; replace HB := zb HB hb; (try clear hb); (try clear hb2); (try clear hk); (try clear hi); (try clear ho0)) | ((with_reducible refine gate_dst (N := 9) rfl ?_); (try (refine gate_guard (by rfl) ?_; dsimp only)); refine box_event ?hg (N := 9) ?hd (cs := #[.int .i64 0, .int .i64 0, .slice none 0 0]) (t := 29) ?hr ?_; (case hd => rfl); (case hg => rfl); (case hr => first | (go_simp; done) | (go_simp; rfl)); intro gb610 hg w14 hbox hb; have GW610 := zg HB hg; have GE610 := zg HB hg; have NB602_610 := zn BK602 hg; have NB610_602 := zn' BK602 hg; have NB603_610 := zn BK603 hg; have NB610_603 := zn' BK603 hg; have n0_ := Aside0.mk (hbox); replace HO608 := zr HO608 hb; replace BK602 := zk BK602 hb; replace BK603 := zk BK603 hb; replace HB := zb HB hb; have BK610 := n0_; clear n0_; clear hb hbox hg; have hnb15 := NB610_602.out; have hnc15 := NB602_610.out; have hnb16 := NB610_603.out; have hnc16 := NB603_610.out; obtain ⟨hcz17_0, hcz17_1, hcz17_2, hfz17_0, hfz17_1, hfz17_2⟩ := zq3 BK610; obtain ⟨Ao18, co18, eo18⟩ := Kd.R_slice HO608.out; subst eo18))
  (try simp only [Act.put, sA, sB, sC])
  go_cut [85] (fun v85 wc => ∃ (kq : Nat) (x85_6 : Bool), v85 = .bool x85_6 ∧ Aside0 (imageeditorlaw24_WandCloses.j0 kq a2 a3 x85_6 a0_0 a0_1 l0_2 a1_0 a1_1 t604 t605 t606 = some r) ∧ Aside0 (kq ≤ k) ∧ Aside0 (Kd.R (Kd.int .i64) 3 wc w.heap.size (fun _ => True) (.slice Ao18 t606.length co18) t606) ∧ Aside0 (wc.heap[gb602]? = some (.cells #[.int .i64 a0_0, .int .i64 a0_1, (.slice A0_2 l0_2.length c0_2)] 24 (0, 0))) ∧ Aside0 (wc.heap[gb603]? = some (.cells #[.int .i64 a1_0, .int .i64 a1_1] 26 (0, 0))) ∧ Aside0 (wc.heap[gb610]? = some (.cells #[.int .i64 t604, .int .i64 t605, (.slice Ao18 t606.length co18)] 29 (0, 0))) ∧ Aside0 (Below w.heap.size w wc))
  case first =>
   have H := HC7.out
   clear HC7
   replace H := Option.bind_eq_some_iff.mp H
   obtain ⟨t612, A190, H⟩ := H
   replace H : (if t612 = 0 then (if a1_0 < 0 then (imageeditorlaw24_WandCloses.j0 k a2 a3 true a0_0 a0_1 l0_2 a1_0 a1_1 t604 t605 t606) else (if a1_0 ≥ a0_0 then (imageeditorlaw24_WandCloses.j0 k a2 a3 true a0_0 a0_1 l0_2 a1_0 a1_1 t604 t605 t606) else (if a1_1 < 0 then (imageeditorlaw24_WandCloses.j0 k a2 a3 true a0_0 a0_1 l0_2 a1_0 a1_1 t604 t605 t606) else (if a1_1 ≥ a0_1 then (imageeditorlaw24_WandCloses.j0 k a2 a3 true a0_0 a0_1 l0_2 a1_0 a1_1 t604 t605 t606) else (if t604 = a0_0 then (if t605 = a0_1 then (imageeditorlaw24_WandCloses.j0 k a2 a3 ((t606.length : Int) != (l0_2.length : Int)) a0_0 a0_1 l0_2 a1_0 a1_1 t604 t605 t606) else (imageeditorlaw24_WandCloses.j0 k a2 a3 true a0_0 a0_1 l0_2 a1_0 a1_1 t604 t605 t606)) else (imageeditorlaw24_WandCloses.j0 k a2 a3 true a0_0 a0_1 l0_2 a1_0 a1_1 t604 t605 t606)))))) else (imageeditorlaw24_WandCloses.j0 k a2 a3 true a0_0 a0_1 l0_2 a1_0 a1_1 t604 t605 t606)) = some r := H
   have A19 := Aside0.mk A190
   clear A190
   by_cases c20 : t612 = 0
   ·rw [if_pos c20] at H
    have c20b0 : (t612 == 0) = true := beq_iff_eq.mpr c20
    have c20b1 : (t612 != 0) = false := bne_eq_false_iff_eq.mpr c20
    clear c20
    (first | rw [c20b0] | (simp only [i64_w, i32_w]; rw [c20b0]) | skip)
    by_cases c21 : a1_0 < 0
    ·rw [if_pos c21] at H
     have c21b0 : decide (a1_0 < 0) = true := decide_eq_true c21
     clear c21
     as_aux_lemma =>
      have H' := Aside0.mk H
      clear H
      obtain ⟨hcz22_0, hcz22_1, hcz22_2, hfz22_0, hfz22_1, hfz22_2⟩ := zq3 BK602
      go_wp2_with (first | ((with_reducible refine gate_callee (f := 19) rfl ?_); refine goesL_ (some 37) rfl rfl Try.func19 (by kernel_rfl) rfl #[.agg #[.int .i64 a0_0, .int .i64 a0_1, .slice A0_2 l0_2.length c0_2]] rfl (by (try simp only [List.map_toArray, List.map_cons, List.map_nil]); first | done | rfl | (simp only [List.length_drop, List.length_take]; rfl)) ?_; (with_reducible refine (imageeditorref11_Check.calls k a0_0 a0_1 _ _ l0_2 t612 _ ?side1 ?side2 A19.out).mono ?_); (case side1 => exact Kd.C_below HR0_2.out (by exact zbo HB GE610)); (case side2 => exact HC0_2.out); rintro e w23 ⟨rfl, hb⟩; refine ⟨_, rfl, ?_⟩; have n0_ := Aside0.mk (Kd.R_below (by exact zro HO608 BK610 (by decide)) hb); have n1_ := Aside0.mk (blk_below (g := gb610) (o := .cells #[.int .i64 t604, .int .i64 t605, .slice Ao18 t606.length co18] 29 (0, 0)) (by exact zp BK610 rfl) hb); have n2_ := Aside0.mk (below_step (by exact zbo HB GE610) hb); replace BK602 := zfk BK602 NB602_610 hb; replace BK603 := zfk BK603 NB603_610 hb; clear HO608; clear BK610; clear HB; have HO608 := n0_; have BK610 := n1_; have HB := n2_; clear n0_ n1_ n2_; (try clear hb); (try clear hb2); (try clear hk); (try clear hi); obtain ⟨hcz24_0, hcz24_1, hfz24_0, hfz24_1⟩ := zq2 BK603))
      go_meet
      case rel => exact ⟨_, (true), (by first | rfl | (simp; done) | (simp [*]; done)), H', ⟨by first | omega | exact Nat.le_refl _⟩, ⟨by exact zr0 HO608⟩, ⟨by exact zk0 BK602⟩, ⟨by exact zk0 BK603⟩, ⟨by exact zk0 BK610⟩, ⟨by exact zb0 HB⟩⟩
    ·rw [if_neg c21] at H
     have c21b0 : decide (a1_0 < 0) = false := decide_eq_false c21
     clear c21
     by_cases c25 : a1_0 ≥ a0_0
     ·rw [if_pos c25] at H
      have c25b0 : decide (a0_0 ≤ a1_0) = true := decide_eq_true c25
      clear c25
      as_aux_lemma =>
       have H' := Aside0.mk H
       clear H
       obtain ⟨hcz26_0, hcz26_1, hcz26_2, hfz26_0, hfz26_1, hfz26_2⟩ := zq3 BK602
       go_wp2_with (first | ((with_reducible refine gate_callee (f := 19) rfl ?_); refine goesL_ (some 37) rfl rfl Try.func19 (by kernel_rfl) rfl #[.agg #[.int .i64 a0_0, .int .i64 a0_1, .slice A0_2 l0_2.length c0_2]] rfl (by (try simp only [List.map_toArray, List.map_cons, List.map_nil]); first | done | rfl | (simp only [List.length_drop, List.length_take]; rfl)) ?_; (with_reducible refine (imageeditorref11_Check.calls k a0_0 a0_1 _ _ l0_2 t612 _ ?side1 ?side2 A19.out).mono ?_); (case side1 => exact Kd.C_below HR0_2.out (by exact zbo HB GE610)); (case side2 => exact HC0_2.out); rintro e w27 ⟨rfl, hb⟩; refine ⟨_, rfl, ?_⟩; have n0_ := Aside0.mk (Kd.R_below (by exact zro HO608 BK610 (by decide)) hb); have n1_ := Aside0.mk (blk_below (g := gb610) (o := .cells #[.int .i64 t604, .int .i64 t605, .slice Ao18 t606.length co18] 29 (0, 0)) (by exact zp BK610 rfl) hb); have n2_ := Aside0.mk (below_step (by exact zbo HB GE610) hb); replace BK602 := zfk BK602 NB602_610 hb; replace BK603 := zfk BK603 NB603_610 hb; clear HO608; clear BK610; clear HB; have HO608 := n0_; have BK610 := n1_; have HB := n2_; clear n0_ n1_ n2_; (try clear hb); (try clear hb2); (try clear hk); (try clear hi); obtain ⟨hcz28_0, hcz28_1, hfz28_0, hfz28_1⟩ := zq2 BK603; obtain ⟨hcz29_0, hcz29_1, hcz29_2, hfz29_0, hfz29_1, hfz29_2⟩ := zq3 BK602))
       go_meet
       case rel => exact ⟨_, (true), (by first | rfl | (simp; done) | (simp [*]; done)), H', ⟨by first | omega | exact Nat.le_refl _⟩, ⟨by exact zr0 HO608⟩, ⟨by exact zk0 BK602⟩, ⟨by exact zk0 BK603⟩, ⟨by exact zk0 BK610⟩, ⟨by exact zb0 HB⟩⟩
     ·rw [if_neg c25] at H
      have c25b0 : decide (a0_0 ≤ a1_0) = false := decide_eq_false c25
      clear c25
      by_cases c30 : a1_1 < 0
      ·rw [if_pos c30] at H
       have c30b0 : decide (a1_1 < 0) = true := decide_eq_true c30
       clear c30
       as_aux_lemma =>
        have H' := Aside0.mk H
        clear H
        obtain ⟨hcz31_0, hcz31_1, hcz31_2, hfz31_0, hfz31_1, hfz31_2⟩ := zq3 BK602
        go_wp2_with (first | ((with_reducible refine gate_callee (f := 19) rfl ?_); refine goesL_ (some 37) rfl rfl Try.func19 (by kernel_rfl) rfl #[.agg #[.int .i64 a0_0, .int .i64 a0_1, .slice A0_2 l0_2.length c0_2]] rfl (by (try simp only [List.map_toArray, List.map_cons, List.map_nil]); first | done | rfl | (simp only [List.length_drop, List.length_take]; rfl)) ?_; (with_reducible refine (imageeditorref11_Check.calls k a0_0 a0_1 _ _ l0_2 t612 _ ?side1 ?side2 A19.out).mono ?_); (case side1 => exact Kd.C_below HR0_2.out (by exact zbo HB GE610)); (case side2 => exact HC0_2.out); rintro e w32 ⟨rfl, hb⟩; refine ⟨_, rfl, ?_⟩; have n0_ := Aside0.mk (Kd.R_below (by exact zro HO608 BK610 (by decide)) hb); have n1_ := Aside0.mk (blk_below (g := gb610) (o := .cells #[.int .i64 t604, .int .i64 t605, .slice Ao18 t606.length co18] 29 (0, 0)) (by exact zp BK610 rfl) hb); have n2_ := Aside0.mk (below_step (by exact zbo HB GE610) hb); replace BK602 := zfk BK602 NB602_610 hb; replace BK603 := zfk BK603 NB603_610 hb; clear HO608; clear BK610; clear HB; have HO608 := n0_; have BK610 := n1_; have HB := n2_; clear n0_ n1_ n2_; (try clear hb); (try clear hb2); (try clear hk); (try clear hi); obtain ⟨hcz33_0, hcz33_1, hfz33_0, hfz33_1⟩ := zq2 BK603; obtain ⟨hcz34_0, hcz34_1, hcz34_2, hfz34_0, hfz34_1, hfz34_2⟩ := zq3 BK602))
        go_meet
        case rel => exact ⟨_, (true), (by first | rfl | (simp; done) | (simp [*]; done)), H', ⟨by first | omega | exact Nat.le_refl _⟩, ⟨by exact zr0 HO608⟩, ⟨by exact zk0 BK602⟩, ⟨by exact zk0 BK603⟩, ⟨by exact zk0 BK610⟩, ⟨by exact zb0 HB⟩⟩
      ·rw [if_neg c30] at H
       have c30b0 : decide (a1_1 < 0) = false := decide_eq_false c30
       clear c30
       by_cases c35 : a1_1 ≥ a0_1
       ·rw [if_pos c35] at H
        have c35b0 : decide (a0_1 ≤ a1_1) = true := decide_eq_true c35
        clear c35
        as_aux_lemma =>
         have H' := Aside0.mk H
         clear H
         obtain ⟨hcz36_0, hcz36_1, hcz36_2, hfz36_0, hfz36_1, hfz36_2⟩ := zq3 BK602
         go_wp2_with (first | ((with_reducible refine gate_callee (f := 19) rfl ?_); refine goesL_ (some 37) rfl rfl Try.func19 (by kernel_rfl) rfl #[.agg #[.int .i64 a0_0, .int .i64 a0_1, .slice A0_2 l0_2.length c0_2]] rfl (by (try simp only [List.map_toArray, List.map_cons, List.map_nil]); first | done | rfl | (simp only [List.length_drop, List.length_take]; rfl)) ?_; (with_reducible refine (imageeditorref11_Check.calls k a0_0 a0_1 _ _ l0_2 t612 _ ?side1 ?side2 A19.out).mono ?_); (case side1 => exact Kd.C_below HR0_2.out (by exact zbo HB GE610)); (case side2 => exact HC0_2.out); rintro e w37 ⟨rfl, hb⟩; refine ⟨_, rfl, ?_⟩; have n0_ := Aside0.mk (Kd.R_below (by exact zro HO608 BK610 (by decide)) hb); have n1_ := Aside0.mk (blk_below (g := gb610) (o := .cells #[.int .i64 t604, .int .i64 t605, .slice Ao18 t606.length co18] 29 (0, 0)) (by exact zp BK610 rfl) hb); have n2_ := Aside0.mk (below_step (by exact zbo HB GE610) hb); replace BK602 := zfk BK602 NB602_610 hb; replace BK603 := zfk BK603 NB603_610 hb; clear HO608; clear BK610; clear HB; have HO608 := n0_; have BK610 := n1_; have HB := n2_; clear n0_ n1_ n2_; (try clear hb); (try clear hb2); (try clear hk); (try clear hi); obtain ⟨hcz38_0, hcz38_1, hfz38_0, hfz38_1⟩ := zq2 BK603; obtain ⟨hcz39_0, hcz39_1, hcz39_2, hfz39_0, hfz39_1, hfz39_2⟩ := zq3 BK602))
         go_meet
         case rel => exact ⟨_, (true), (by first | rfl | (simp; done) | (simp [*]; done)), H', ⟨by first | omega | exact Nat.le_refl _⟩, ⟨by exact zr0 HO608⟩, ⟨by exact zk0 BK602⟩, ⟨by exact zk0 BK603⟩, ⟨by exact zk0 BK610⟩, ⟨by exact zb0 HB⟩⟩
       ·rw [if_neg c35] at H
        have c35b0 : decide (a0_1 ≤ a1_1) = false := decide_eq_false c35
        clear c35
        by_cases c40 : t604 = a0_0
        ·rw [if_pos c40] at H
         have c40b0 : (t604 == a0_0) = true := beq_iff_eq.mpr c40
         have c40b1 : (t604 != a0_0) = false := bne_eq_false_iff_eq.mpr c40
         clear c40
         by_cases c41 : t605 = a0_1
         ·rw [if_pos c41] at H
          have c41b0 : (t605 == a0_1) = true := beq_iff_eq.mpr c41
          have c41b1 : (t605 != a0_1) = false := bne_eq_false_iff_eq.mpr c41
          clear c41
          as_aux_lemma =>
           have H' := Aside0.mk H
           clear H
           obtain ⟨hcz42_0, hcz42_1, hcz42_2, hfz42_0, hfz42_1, hfz42_2⟩ := zq3 BK602
           go_wp2_with (first | ((with_reducible refine gate_callee (f := 19) rfl ?_); refine goesL_ (some 37) rfl rfl Try.func19 (by kernel_rfl) rfl #[.agg #[.int .i64 a0_0, .int .i64 a0_1, .slice A0_2 l0_2.length c0_2]] rfl (by (try simp only [List.map_toArray, List.map_cons, List.map_nil]); first | done | rfl | (simp only [List.length_drop, List.length_take]; rfl)) ?_; (with_reducible refine (imageeditorref11_Check.calls k a0_0 a0_1 _ _ l0_2 t612 _ ?side1 ?side2 A19.out).mono ?_); (case side1 => exact Kd.C_below HR0_2.out (by exact zbo HB GE610)); (case side2 => exact HC0_2.out); rintro e w43 ⟨rfl, hb⟩; refine ⟨_, rfl, ?_⟩; have n0_ := Aside0.mk (Kd.R_below (by exact zro HO608 BK610 (by decide)) hb); have n1_ := Aside0.mk (blk_below (g := gb610) (o := .cells #[.int .i64 t604, .int .i64 t605, .slice Ao18 t606.length co18] 29 (0, 0)) (by exact zp BK610 rfl) hb); have n2_ := Aside0.mk (below_step (by exact zbo HB GE610) hb); replace BK602 := zfk BK602 NB602_610 hb; replace BK603 := zfk BK603 NB603_610 hb; clear HO608; clear BK610; clear HB; have HO608 := n0_; have BK610 := n1_; have HB := n2_; clear n0_ n1_ n2_; (try clear hb); (try clear hb2); (try clear hk); (try clear hi); obtain ⟨hcz44_0, hcz44_1, hfz44_0, hfz44_1⟩ := zq2 BK603; obtain ⟨hcz45_0, hcz45_1, hcz45_2, hfz45_0, hfz45_1, hfz45_2⟩ := zq3 BK602; obtain ⟨hcz46_0, hcz46_1, hcz46_2, hfz46_0, hfz46_1, hfz46_2⟩ := zq3 BK610))
           go_meet
           case rel => exact ⟨_, (((t606.length : Int) != (l0_2.length : Int))), (by first | rfl | (simp; done) | (simp [*]; done)), H', ⟨by first | omega | exact Nat.le_refl _⟩, ⟨by exact zr0 HO608⟩, ⟨by exact zk0 BK602⟩, ⟨by exact zk0 BK603⟩, ⟨by exact zk0 BK610⟩, ⟨by exact zb0 HB⟩⟩
         ·rw [if_neg c41] at H
          have c41b0 : (t605 == a0_1) = false := beq_eq_false_iff_ne.mpr c41
          have c41b1 : (t605 != a0_1) = true := bne_iff_ne.mpr c41
          as_aux_lemma =>
           have H' := Aside0.mk H
           clear H
           obtain ⟨hcz47_0, hcz47_1, hcz47_2, hfz47_0, hfz47_1, hfz47_2⟩ := zq3 BK602
           go_wp2_with (first | ((with_reducible refine gate_callee (f := 19) rfl ?_); refine goesL_ (some 37) rfl rfl Try.func19 (by kernel_rfl) rfl #[.agg #[.int .i64 a0_0, .int .i64 a0_1, .slice A0_2 l0_2.length c0_2]] rfl (by (try simp only [List.map_toArray, List.map_cons, List.map_nil]); first | done | rfl | (simp only [List.length_drop, List.length_take]; rfl)) ?_; (with_reducible refine (imageeditorref11_Check.calls k a0_0 a0_1 _ _ l0_2 t612 _ ?side1 ?side2 A19.out).mono ?_); (case side1 => exact Kd.C_below HR0_2.out (by exact zbo HB GE610)); (case side2 => exact HC0_2.out); rintro e w48 ⟨rfl, hb⟩; refine ⟨_, rfl, ?_⟩; have n0_ := Aside0.mk (Kd.R_below (by exact zro HO608 BK610 (by decide)) hb); have n1_ := Aside0.mk (blk_below (g := gb610) (o := .cells #[.int .i64 t604, .int .i64 t605, .slice Ao18 t606.length co18] 29 (0, 0)) (by exact zp BK610 rfl) hb); have n2_ := Aside0.mk (below_step (by exact zbo HB GE610) hb); replace BK602 := zfk BK602 NB602_610 hb; replace BK603 := zfk BK603 NB603_610 hb; clear HO608; clear BK610; clear HB; have HO608 := n0_; have BK610 := n1_; have HB := n2_; clear n0_ n1_ n2_; (try clear hb); (try clear hb2); (try clear hk); (try clear hi); obtain ⟨hcz49_0, hcz49_1, hfz49_0, hfz49_1⟩ := zq2 BK603; obtain ⟨hcz50_0, hcz50_1, hcz50_2, hfz50_0, hfz50_1, hfz50_2⟩ := zq3 BK602; obtain ⟨hcz51_0, hcz51_1, hcz51_2, hfz51_0, hfz51_1, hfz51_2⟩ := zq3 BK610))
           go_meet
           case rel => exact ⟨_, (true), (by first | rfl | (simp; done) | (simp [*]; done)), H', ⟨by first | omega | exact Nat.le_refl _⟩, ⟨by exact zr0 HO608⟩, ⟨by exact zk0 BK602⟩, ⟨by exact zk0 BK603⟩, ⟨by exact zk0 BK610⟩, ⟨by exact zb0 HB⟩⟩
        ·rw [if_neg c40] at H
         have c40b0 : (t604 == a0_0) = false := beq_eq_false_iff_ne.mpr c40
         have c40b1 : (t604 != a0_0) = true := bne_iff_ne.mpr c40
         as_aux_lemma =>
          have H' := Aside0.mk H
          clear H
          obtain ⟨hcz52_0, hcz52_1, hcz52_2, hfz52_0, hfz52_1, hfz52_2⟩ := zq3 BK602
          go_wp2_with (first | ((with_reducible refine gate_callee (f := 19) rfl ?_); refine goesL_ (some 37) rfl rfl Try.func19 (by kernel_rfl) rfl #[.agg #[.int .i64 a0_0, .int .i64 a0_1, .slice A0_2 l0_2.length c0_2]] rfl (by (try simp only [List.map_toArray, List.map_cons, List.map_nil]); first | done | rfl | (simp only [List.length_drop, List.length_take]; rfl)) ?_; (with_reducible refine (imageeditorref11_Check.calls k a0_0 a0_1 _ _ l0_2 t612 _ ?side1 ?side2 A19.out).mono ?_); (case side1 => exact Kd.C_below HR0_2.out (by exact zbo HB GE610)); (case side2 => exact HC0_2.out); rintro e w53 ⟨rfl, hb⟩; refine ⟨_, rfl, ?_⟩; have n0_ := Aside0.mk (Kd.R_below (by exact zro HO608 BK610 (by decide)) hb); have n1_ := Aside0.mk (blk_below (g := gb610) (o := .cells #[.int .i64 t604, .int .i64 t605, .slice Ao18 t606.length co18] 29 (0, 0)) (by exact zp BK610 rfl) hb); have n2_ := Aside0.mk (below_step (by exact zbo HB GE610) hb); replace BK602 := zfk BK602 NB602_610 hb; replace BK603 := zfk BK603 NB603_610 hb; clear HO608; clear BK610; clear HB; have HO608 := n0_; have BK610 := n1_; have HB := n2_; clear n0_ n1_ n2_; (try clear hb); (try clear hb2); (try clear hk); (try clear hi); obtain ⟨hcz54_0, hcz54_1, hfz54_0, hfz54_1⟩ := zq2 BK603; obtain ⟨hcz55_0, hcz55_1, hcz55_2, hfz55_0, hfz55_1, hfz55_2⟩ := zq3 BK602; obtain ⟨hcz56_0, hcz56_1, hcz56_2, hfz56_0, hfz56_1, hfz56_2⟩ := zq3 BK610))
          go_meet
          case rel => exact ⟨_, (true), (by first | rfl | (simp; done) | (simp [*]; done)), H', ⟨by first | omega | exact Nat.le_refl _⟩, ⟨by exact zr0 HO608⟩, ⟨by exact zk0 BK602⟩, ⟨by exact zk0 BK603⟩, ⟨by exact zk0 BK610⟩, ⟨by exact zb0 HB⟩⟩
   ·rw [if_neg c20] at H
    have c20b0 : (t612 == 0) = false := beq_eq_false_iff_ne.mpr c20
    have c20b1 : (t612 != 0) = true := bne_iff_ne.mpr c20
    (first | rw [c20b0] | (simp only [i64_w, i32_w]; rw [c20b0]) | skip)
    as_aux_lemma =>
     have H' := Aside0.mk H
     clear H
     obtain ⟨hcz57_0, hcz57_1, hcz57_2, hfz57_0, hfz57_1, hfz57_2⟩ := zq3 BK602
     go_wp2_with (first | ((with_reducible refine gate_callee (f := 19) rfl ?_); refine goesL_ (some 37) rfl rfl Try.func19 (by kernel_rfl) rfl #[.agg #[.int .i64 a0_0, .int .i64 a0_1, .slice A0_2 l0_2.length c0_2]] rfl (by (try simp only [List.map_toArray, List.map_cons, List.map_nil]); first | done | rfl | (simp only [List.length_drop, List.length_take]; rfl)) ?_; (with_reducible refine (imageeditorref11_Check.calls k a0_0 a0_1 _ _ l0_2 t612 _ ?side1 ?side2 A19.out).mono ?_); (case side1 => exact Kd.C_below HR0_2.out (by exact zbo HB GE610)); (case side2 => exact HC0_2.out); rintro e w58 ⟨rfl, hb⟩; refine ⟨_, rfl, ?_⟩; have n0_ := Aside0.mk (Kd.R_below (by exact zro HO608 BK610 (by decide)) hb); have n1_ := Aside0.mk (blk_below (g := gb610) (o := .cells #[.int .i64 t604, .int .i64 t605, .slice Ao18 t606.length co18] 29 (0, 0)) (by exact zp BK610 rfl) hb); have n2_ := Aside0.mk (below_step (by exact zbo HB GE610) hb); replace BK602 := zfk BK602 NB602_610 hb; replace BK603 := zfk BK603 NB603_610 hb; clear HO608; clear BK610; clear HB; have HO608 := n0_; have BK610 := n1_; have HB := n2_; clear n0_ n1_ n2_; (try clear hb); (try clear hb2); (try clear hk); (try clear hi)))
     go_meet
     case rel => exact ⟨_, (true), (by first | rfl | (simp; done) | (simp [*]; done)), H', ⟨by first | omega | exact Nat.le_refl _⟩, ⟨by exact zr0 HO608⟩, ⟨by exact zk0 BK602⟩, ⟨by exact zk0 BK603⟩, ⟨by exact zk0 BK610⟩, ⟨by exact zb0 HB⟩⟩
  case rest =>
   clear HC7
   try clear c1
   try clear c2
   try clear p2
   try clear q2
   try clear c3
   try clear q3
   try clear c4
   try clear c5
   try clear c6
   try clear c6b0
   try clear c6b1
   try clear c9
   try clear c10
   try clear c15
   try clear c16
   try clear c19
   try clear c20
   try clear c20b0
   try clear c20b1
   try clear c21
   try clear c21b0
   try clear c25
   try clear c25b0
   try clear c30
   try clear c30b0
   try clear c35
   try clear c35b0
   try clear c40
   try clear c40b0
   try clear c40b1
   try clear c41
   try clear c41b0
   try clear c41b1
   try clear hcz11_0
   try clear hcz11_1
   try clear hcz11_2
   try clear hcz12_0
   try clear hcz12_1
   try clear hcz17_0
   try clear hcz17_1
   try clear hcz17_2
   try clear hcz22_0
   try clear hcz22_1
   try clear hcz22_2
   try clear hcz24_0
   try clear hcz24_1
   try clear hcz26_0
   try clear hcz26_1
   try clear hcz26_2
   try clear hcz28_0
   try clear hcz28_1
   try clear hcz29_0
   try clear hcz29_1
   try clear hcz29_2
   try clear hcz31_0
   try clear hcz31_1
   try clear hcz31_2
   try clear hcz33_0
   try clear hcz33_1
   try clear hcz34_0
   try clear hcz34_1
   try clear hcz34_2
   try clear hcz36_0
   try clear hcz36_1
   try clear hcz36_2
   try clear hcz38_0
   try clear hcz38_1
   try clear hcz39_0
   try clear hcz39_1
   try clear hcz39_2
   try clear hcz42_0
   try clear hcz42_1
   try clear hcz42_2
   try clear hcz44_0
   try clear hcz44_1
   try clear hcz45_0
   try clear hcz45_1
   try clear hcz45_2
   try clear hcz46_0
   try clear hcz46_1
   try clear hcz46_2
   try clear hcz47_0
   try clear hcz47_1
   try clear hcz47_2
   try clear hcz49_0
   try clear hcz49_1
   try clear hcz50_0
   try clear hcz50_1
   try clear hcz50_2
   try clear hcz51_0
   try clear hcz51_1
   try clear hcz51_2
   try clear hcz52_0
   try clear hcz52_1
   try clear hcz52_2
   try clear hcz54_0
   try clear hcz54_1
   try clear hcz55_0
   try clear hcz55_1
   try clear hcz55_2
   try clear hcz56_0
   try clear hcz56_1
   try clear hcz56_2
   try clear hcz57_0
   try clear hcz57_1
   try clear hcz57_2
   try clear hfz11_0
   try clear hfz11_1
   try clear hfz11_2
   try clear hfz12_0
   try clear hfz12_1
   try clear hfz17_0
   try clear hfz17_1
   try clear hfz17_2
   try clear hfz22_0
   try clear hfz22_1
   try clear hfz22_2
   try clear hfz24_0
   try clear hfz24_1
   try clear hfz26_0
   try clear hfz26_1
   try clear hfz26_2
   try clear hfz28_0
   try clear hfz28_1
   try clear hfz29_0
   try clear hfz29_1
   try clear hfz29_2
   try clear hfz31_0
   try clear hfz31_1
   try clear hfz31_2
   try clear hfz33_0
   try clear hfz33_1
   try clear hfz34_0
   try clear hfz34_1
   try clear hfz34_2
   try clear hfz36_0
   try clear hfz36_1
   try clear hfz36_2
   try clear hfz38_0
   try clear hfz38_1
   try clear hfz39_0
   try clear hfz39_1
   try clear hfz39_2
   try clear hfz42_0
   try clear hfz42_1
   try clear hfz42_2
   try clear hfz44_0
   try clear hfz44_1
   try clear hfz45_0
   try clear hfz45_1
   try clear hfz45_2
   try clear hfz46_0
   try clear hfz46_1
   try clear hfz46_2
   try clear hfz47_0
   try clear hfz47_1
   try clear hfz47_2
   try clear hfz49_0
   try clear hfz49_1
   try clear hfz50_0
   try clear hfz50_1
   try clear hfz50_2
   try clear hfz51_0
   try clear hfz51_1
   try clear hfz51_2
   try clear hfz52_0
   try clear hfz52_1
   try clear hfz52_2
   try clear hfz54_0
   try clear hfz54_1
   try clear hfz55_0
   try clear hfz55_1
   try clear hfz55_2
   try clear hfz56_0
   try clear hfz56_1
   try clear hfz56_2
   try clear hfz57_0
   try clear hfz57_1
   try clear hfz57_2
   obtain ⟨kq, x85_6, rfl, HA, HJ6, HO_611002, BK602, BK603, BK610, HB⟩ := hcut
   cases kq with
   | zero => exact absurd HA.out (by simp [imageeditorlaw24_WandCloses.j0])
   | succ kj6 =>
    have H := HA.out
    clear HA
    simp only [imageeditorlaw24_WandCloses.j0] at H
    by_cases c59 : x85_6 = true
    ·subst c59
     have H1 : (some false) = some r := by rw [if_pos rfl] at H; exact H
     clear H
     have H := H1
     clear H1
     as_aux_lemma =>
      exact absurd HT.out (by rw [← Option.some.inj H]; decide)
    ·replace c59 := Bool.eq_false_iff.mpr c59
     subst c59
     have H1 : (if 0 ≤ (wrap64 ((wrap64 (a1_1 * a0_0)) + a1_0)) then (if (wrap64 ((wrap64 (a1_1 * a0_0)) + a1_0)) < (t606.length : Int) then (if (rd t606 (wrap64 ((wrap64 (a1_1 * a0_0)) + a1_0))) = 65535 then (imageeditorlaw24_WandCloses.l0 kj6 a2 a3 (wrap64 ((wrap64 (a1_1 * a0_0)) + a1_0)) (t606.length : Int) 0 a0_0 a0_1 l0_2 t604 t605 t606) else (some false)) else (none)) else (none)) = some r := by rw [if_neg (show ¬ (false = true) by decide)] at H; exact H
     clear H
     have H := H1
     clear H1
     obtain ⟨ji60, hji60⟩ : ∃ j_ : Int, (wrap64 ((wrap64 (a1_1 * a0_0)) + a1_0)) = j_ := ⟨_, rfl⟩
     replace H : (if 0 ≤ (ji60) then (if (ji60) < (t606.length : Int) then (if (rd t606 (ji60)) = 65535 then (imageeditorlaw24_WandCloses.l0 kj6 a2 a3 ji60 (t606.length : Int) 0 a0_0 a0_1 l0_2 t604 t605 t606) else (some false)) else (none)) else (none)) = some r := by first | (rw [hji60] at H; exact H) | (simp only [hji60] at H ⊢; exact H)
     have hji60w : (IntKind.i64.wrap ((wrap64 (a1_1 * a0_0)) + a1_0)) = ji60 := (i64_w _).trans hji60
     by_cases c61 : 0 ≤ (ji60)
     ·rw [if_pos c61] at H
      have c61b0 : decide (0 ≤ (ji60)) = true := decide_eq_true c61
      clear c61
      by_cases c62 : (ji60) < (t606.length : Int)
      ·rw [if_pos c62] at H
       have c62b0 : decide ((ji60) < (t606.length : Int)) = true := decide_eq_true c62
       clear c62
       by_cases c63 : (rd t606 (ji60)) = 65535
       ·rw [if_pos c63] at H
        have c63b0 : ((rd t606 (ji60)) == 65535) = true := beq_iff_eq.mpr c63
        have c63b1 : ((rd t606 (ji60)) != 65535) = false := bne_eq_false_iff_eq.mpr c63
        clear c63
        have H' := Aside0.mk H
        clear H
        obtain ⟨hcz64_0, hcz64_1, hfz64_0, hfz64_1⟩ := zq2 BK603
        obtain ⟨hcz65_0, hcz65_1, hcz65_2, hfz65_0, hfz65_1, hfz65_2⟩ := zq3 BK602
        obtain ⟨hcz66_0, hcz66_1, hcz66_2, hfz66_0, hfz66_1, hfz66_2⟩ := zq3 BK610
        have p613 : 0 ≤ ((ji60) : Int) := of_decide_eq_true (by first | (with_reducible assumption) | assumption)
        have q613 : (ji60) < (t606.length : Int) := of_decide_eq_true (by first | (with_reducible assumption) | assumption)
        obtain ⟨ad613, e613, hx613_0⟩ := Kd.at_int (Kd.R_reads' HO_611002.out).2.2 (ji60) p613 q613
        cases e613
        replace p613 := eq_true p613
        replace q613 := eq_true q613
        go_wp2
        go_loopg [103] kj6 (fun kq v103 w' => ∃ (x103_2 : Int), v103 = .int .i64 x103_2 ∧ Aside0 (imageeditorlaw24_WandCloses.l0 kq a2 a3 ji60 (t606.length : Int) x103_2 a0_0 a0_1 l0_2 t604 t605 t606 = some r) ∧ Aside0 (kq ≤ kj6) ∧ Aside0 (Kd.R (Kd.int .i64) 3 w' w.heap.size (fun _ => True) (.slice (some ad613) t606.length co18) t606) ∧ Aside0 (w'.heap[gb602]? = some (.cells #[.int .i64 a0_0, .int .i64 a0_1, (.slice A0_2 l0_2.length c0_2)] 24 (0, 0))) ∧ Aside0 (w'.heap[gb603]? = some (.cells #[.int .i64 a1_0, .int .i64 a1_1] 26 (0, 0))) ∧ Aside0 (w'.heap[gb610]? = some (.cells #[.int .i64 t604, .int .i64 t605, (.slice (some ad613) t606.length co18)] 29 (0, 0))) ∧ Aside0 (Below w.heap.size w w'))
        case atStart => exact ⟨(0), (by first | rfl | (simp; done) | (simp [*]; done)), H', ⟨Nat.le_refl _⟩, ⟨by exact zr0 HO_611002⟩, ⟨by exact zk0 BK602⟩, ⟨by exact zk0 BK603⟩, ⟨by exact zk0 BK610⟩, ⟨by exact zb0 HB⟩⟩
        case round =>
         clear H'
         try clear c1
         try clear c2
         try clear p2
         try clear q2
         try clear c3
         try clear q3
         try clear c4
         try clear c5
         try clear c6
         try clear c6b0
         try clear c6b1
         try clear p6
         try clear q6
         try clear hx6
         try clear c9
         try clear c10
         try clear c15
         try clear c16
         try clear c19
         try clear c20
         try clear c20b0
         try clear c20b1
         try clear c21
         try clear c21b0
         try clear c25
         try clear c25b0
         try clear c30
         try clear c30b0
         try clear c35
         try clear c35b0
         try clear c40
         try clear c40b0
         try clear c40b1
         try clear c41
         try clear c41b0
         try clear c41b1
         try clear c59
         try clear c61
         try clear c61b0
         try clear p61
         try clear q61
         try clear hx61
         try clear c62
         try clear c62b0
         try clear c63
         try clear c63b0
         try clear c63b1
         try clear p64
         try clear hcz11_0
         try clear hcz11_1
         try clear hcz11_2
         try clear hcz12_0
         try clear hcz12_1
         try clear hcz17_0
         try clear hcz17_1
         try clear hcz17_2
         try clear hcz22_0
         try clear hcz22_1
         try clear hcz22_2
         try clear hcz24_0
         try clear hcz24_1
         try clear hcz26_0
         try clear hcz26_1
         try clear hcz26_2
         try clear hcz28_0
         try clear hcz28_1
         try clear hcz29_0
         try clear hcz29_1
         try clear hcz29_2
         try clear hcz31_0
         try clear hcz31_1
         try clear hcz31_2
         try clear hcz33_0
         try clear hcz33_1
         try clear hcz34_0
         try clear hcz34_1
         try clear hcz34_2
         try clear hcz36_0
         try clear hcz36_1
         try clear hcz36_2
         try clear hcz38_0
         try clear hcz38_1
         try clear hcz39_0
         try clear hcz39_1
         try clear hcz39_2
         try clear hcz42_0
         try clear hcz42_1
         try clear hcz42_2
         try clear hcz44_0
         try clear hcz44_1
         try clear hcz45_0
         try clear hcz45_1
         try clear hcz45_2
         try clear hcz46_0
         try clear hcz46_1
         try clear hcz46_2
         try clear hcz47_0
         try clear hcz47_1
         try clear hcz47_2
         try clear hcz49_0
         try clear hcz49_1
         try clear hcz50_0
         try clear hcz50_1
         try clear hcz50_2
         try clear hcz51_0
         try clear hcz51_1
         try clear hcz51_2
         try clear hcz52_0
         try clear hcz52_1
         try clear hcz52_2
         try clear hcz54_0
         try clear hcz54_1
         try clear hcz55_0
         try clear hcz55_1
         try clear hcz55_2
         try clear hcz56_0
         try clear hcz56_1
         try clear hcz56_2
         try clear hcz57_0
         try clear hcz57_1
         try clear hcz57_2
         try clear hcz64_0
         try clear hcz64_1
         try clear hcz65_0
         try clear hcz65_1
         try clear hcz65_2
         try clear hcz66_0
         try clear hcz66_1
         try clear hcz66_2
         try clear hfz11_0
         try clear hfz11_1
         try clear hfz11_2
         try clear hfz12_0
         try clear hfz12_1
         try clear hfz17_0
         try clear hfz17_1
         try clear hfz17_2
         try clear hfz22_0
         try clear hfz22_1
         try clear hfz22_2
         try clear hfz24_0
         try clear hfz24_1
         try clear hfz26_0
         try clear hfz26_1
         try clear hfz26_2
         try clear hfz28_0
         try clear hfz28_1
         try clear hfz29_0
         try clear hfz29_1
         try clear hfz29_2
         try clear hfz31_0
         try clear hfz31_1
         try clear hfz31_2
         try clear hfz33_0
         try clear hfz33_1
         try clear hfz34_0
         try clear hfz34_1
         try clear hfz34_2
         try clear hfz36_0
         try clear hfz36_1
         try clear hfz36_2
         try clear hfz38_0
         try clear hfz38_1
         try clear hfz39_0
         try clear hfz39_1
         try clear hfz39_2
         try clear hfz42_0
         try clear hfz42_1
         try clear hfz42_2
         try clear hfz44_0
         try clear hfz44_1
         try clear hfz45_0
         try clear hfz45_1
         try clear hfz45_2
         try clear hfz46_0
         try clear hfz46_1
         try clear hfz46_2
         try clear hfz47_0
         try clear hfz47_1
         try clear hfz47_2
         try clear hfz49_0
         try clear hfz49_1
         try clear hfz50_0
         try clear hfz50_1
         try clear hfz50_2
         try clear hfz51_0
         try clear hfz51_1
         try clear hfz51_2
         try clear hfz52_0
         try clear hfz52_1
         try clear hfz52_2
         try clear hfz54_0
         try clear hfz54_1
         try clear hfz55_0
         try clear hfz55_1
         try clear hfz55_2
         try clear hfz56_0
         try clear hfz56_1
         try clear hfz56_2
         try clear hfz57_0
         try clear hfz57_1
         try clear hfz57_2
         try clear hfz64_0
         try clear hfz64_1
         try clear hfz65_0
         try clear hfz65_1
         try clear hfz65_2
         try clear hfz66_0
         try clear hfz66_1
         try clear hfz66_2
         try clear hx613_0
         try clear p2
         try clear p613
         try clear q2
         try clear q3
         try clear q613
         obtain ⟨x103_2, rfl, HA, HK2, HO_611002, BK602, BK603, BK610, HB⟩ := hrel
         cases gk with
         | zero => exact absurd HA.out (by simp [imageeditorlaw24_WandCloses.l0])
         | succ k2 =>
          have H := HA.out
          clear HA
          simp only [imageeditorlaw24_WandCloses.l0] at H
          by_cases c67 : x103_2 < (t606.length : Int)
          ·rw [if_pos c67] at H
           have c67b0 : decide (x103_2 < (t606.length : Int)) = true := decide_eq_true c67
           clear c67
           by_cases c68 : 0 ≤ x103_2
           ·rw [if_pos c68] at H
            have c68b0 : decide (0 ≤ x103_2) = true := decide_eq_true c68
            clear c68
            by_cases c69 : x103_2 < (l0_2.length : Int)
            ·rw [if_pos c69] at H
             have c69b0 : decide (x103_2 < (l0_2.length : Int)) = true := decide_eq_true c69
             clear c69
             by_cases c70 : 0 ≤ ji60
             ·rw [if_pos c70] at H
              have c70b0 : decide (0 ≤ ji60) = true := decide_eq_true c70
              clear c70
              by_cases c71 : ji60 < (l0_2.length : Int)
              ·rw [if_pos c71] at H
               have c71b0 : decide (ji60 < (l0_2.length : Int)) = true := decide_eq_true c71
               clear c71
               replace H := Option.bind_eq_some_iff.mp H
               obtain ⟨t617, A720, H⟩ := H
               replace H : (if x103_2 < (t606.length : Int) then (if (rd t606 x103_2) = 0 then (imageeditorlaw24_WandCloses.j2 k2 a2 a3 ji60 x103_2 t617 (t606.length : Int) x103_2 false a0_0 a0_1 l0_2 t604 t605 t606) else (if (rd t606 x103_2) = 65535 then (imageeditorlaw24_WandCloses.j2 k2 a2 a3 ji60 x103_2 t617 (t606.length : Int) x103_2 (decide (t617 > a2)) a0_0 a0_1 l0_2 t604 t605 t606) else (imageeditorlaw24_WandCloses.j2 k2 a2 a3 ji60 x103_2 t617 (t606.length : Int) x103_2 true a0_0 a0_1 l0_2 t604 t605 t606))) else (none)) = some r := H
               have A72 := Aside0.mk A720
               clear A720
               have HC73 := Aside0.mk H
               clear H
               try go_wp2
               replace HO_611002 := zrd HO_611002
               replace BK602 := zkd BK602
               replace BK603 := zkd BK603
               replace BK610 := zkd BK610
               replace HB := zbd HB
               have p615 : 0 ≤ (x103_2 : Int) := of_decide_eq_true (by first | (with_reducible assumption) | assumption)
               have q615 : x103_2 < (l0_2.length : Int) := of_decide_eq_true (by first | (with_reducible assumption) | assumption)
               obtain ⟨ad615, e615, hx615_0, hx615_1, hx615_2, hx615_3⟩ := at_T37 HR0_2.out x103_2 p615 q615
               have hw615_3 := hx615_3
               have hw615_2 := hx615_2
               have hw615_1 := hx615_1
               have hw615_0 := hx615_0
               cases e615
               replace hx615_0 := (HB.out.cell (World.block_lt_of_cell? w _ hx615_0)).trans hx615_0
               replace hx615_1 := (HB.out.cell (World.block_lt_of_cell? w _ hx615_1)).trans hx615_1
               replace hx615_2 := (HB.out.cell (World.block_lt_of_cell? w _ hx615_2)).trans hx615_2
               replace hx615_3 := (HB.out.cell (World.block_lt_of_cell? w _ hx615_3)).trans hx615_3
               replace p615 := eq_true p615
               replace q615 := eq_true q615
               have p616 : 0 ≤ (ji60 : Int) := of_decide_eq_true (by first | (with_reducible assumption) | assumption)
               have q616 : ji60 < (l0_2.length : Int) := of_decide_eq_true (by first | (with_reducible assumption) | assumption)
               obtain ⟨ad616, e616, hx616_0, hx616_1, hx616_2, hx616_3⟩ := at_T37 HR0_2.out ji60 p616 q616
               have hw616_3 := hx616_3
               have hw616_2 := hx616_2
               have hw616_1 := hx616_1
               have hw616_0 := hx616_0
               obtain rfl : ad615 = ad616 := (by injection e616)
               replace hx616_0 := (HB.out.cell (World.block_lt_of_cell? w _ hx616_0)).trans hx616_0
               replace hx616_1 := (HB.out.cell (World.block_lt_of_cell? w _ hx616_1)).trans hx616_1
               replace hx616_2 := (HB.out.cell (World.block_lt_of_cell? w _ hx616_2)).trans hx616_2
               replace hx616_3 := (HB.out.cell (World.block_lt_of_cell? w _ hx616_3)).trans hx616_3
               replace p616 := eq_true p616
               replace q616 := eq_true q616
               refine start_ (n := 12) (S := fun w' => w'.cell? ⟨gb602, 0, none⟩ = some (.int .i64 a0_0) ∧ w'.cell? ⟨gb602, 1, none⟩ = some (.int .i64 a0_1) ∧ w'.cell? ⟨gb602, 2, none⟩ = some (.slice (some ad615) l0_2.length c0_2) ∧ w'.cell? (ad615.add ((x103_2).toNat * 4)) = some (.int .i64 ((rd_T37 l0_2 x103_2).f0)) ∧ w'.cell? ⟨(ad615.add ((x103_2).toNat * 4)).block, (ad615.add ((x103_2).toNat * 4)).off + 1, none⟩ = some (.int .i64 ((rd_T37 l0_2 x103_2).f1)) ∧ w'.cell? ⟨(ad615.add ((x103_2).toNat * 4)).block, (ad615.add ((x103_2).toNat * 4)).off + 2, none⟩ = some (.int .i64 ((rd_T37 l0_2 x103_2).f2)) ∧ w'.cell? ⟨(ad615.add ((x103_2).toNat * 4)).block, (ad615.add ((x103_2).toNat * 4)).off + 3, none⟩ = some (.int .i64 ((rd_T37 l0_2 x103_2).f3)) ∧ w'.cell? (ad615.add ((ji60).toNat * 4)) = some (.int .i64 ((rd_T37 l0_2 ji60).f0)) ∧ w'.cell? ⟨(ad615.add ((ji60).toNat * 4)).block, (ad615.add ((ji60).toNat * 4)).off + 1, none⟩ = some (.int .i64 ((rd_T37 l0_2 ji60).f1)) ∧ w'.cell? ⟨(ad615.add ((ji60).toNat * 4)).block, (ad615.add ((ji60).toNat * 4)).off + 2, none⟩ = some (.int .i64 ((rd_T37 l0_2 ji60).f2)) ∧ w'.cell? ⟨(ad615.add ((ji60).toNat * 4)).block, (ad615.add ((ji60).toNat * 4)).off + 3, none⟩ = some (.int .i64 ((rd_T37 l0_2 ji60).f3))) (ds := []) (bs 12 0) (by kernel_rfl) rfl rfl ⟨(blk_cell BK602.out 0).trans rfl, (blk_cell BK602.out 1).trans rfl, (blk_cell BK602.out 2).trans rfl, ((HB.out.cell (World.block_lt_of_cell? w _ hw615_0)).trans hw615_0), ((HB.out.cell (World.block_lt_of_cell? w _ hw615_1)).trans hw615_1), ((HB.out.cell (World.block_lt_of_cell? w _ hw615_2)).trans hw615_2), ((HB.out.cell (World.block_lt_of_cell? w _ hw615_3)).trans hw615_3), ((HB.out.cell (World.block_lt_of_cell? w _ hw616_0)).trans hw616_0), ((HB.out.cell (World.block_lt_of_cell? w _ hw616_1)).trans hw616_1), ((HB.out.cell (World.block_lt_of_cell? w _ hw616_2)).trans hw616_2), ((HB.out.cell (World.block_lt_of_cell? w _ hw616_3)).trans hw616_3)⟩ (fun hHeld => ?_); refine with_tabW imageeditorlaw24_WandCloses.tab12 imageeditorlaw24_WandCloses.bits12 (fun HT_ HW_ => ?_)
               generalize wr.drew = w74 at HO_611002 BK602 BK603 BK610 HB hx615_0 hx615_1 hx615_2 hx615_3 hx616_0 hx616_1 hx616_2 hx616_3 hHeld ⊢
               refine pure_ (i := 0) (N := some 106) (v := ?_) (a' := ?_) (bs 12 1) rfl rfl (any_of HT_.out (by kernel_rfl)) (fun _ _ _ h => h) (Or.inl ⟨by rfl, ?_⟩) ?_ ?_
               rotate_left
               ·intro w'
                go_simp
                with_reducible rfl
               rotate_left
               ·simp only [Act.put, sA, sB, sC, i64_w, i32_w]
                rfl
               refine pure_ (i := 2) (N := some 108) (v := ?_) (a' := ?_) (bs 12 5) rfl rfl (any_of HT_.out (by kernel_rfl)) (fun _ _ _ h => h) (Or.inl ⟨by rfl, ?_⟩) ?_ ?_
               rotate_left
               ·intro w'
                go_simp
                with_reducible rfl
               rotate_left
               ·simp only [Act.put, sA, sB, sC, i64_w, i32_w]
                rfl
               refine pure_ (i := 5) (N := some 111) (v := ?_) (a' := ?_) (bs 12 37) rfl rfl (any_of HT_.out (by kernel_rfl)) (fun _ _ _ h => h) (Or.inl ⟨by rfl, ?_⟩) ?_ ?_
               rotate_left
               ·intro w'
                go_simp
                with_reducible rfl
               rotate_left
               ·simp only [Act.put, sA, sB, sC, i64_w, i32_w]
                rfl
               refine pure_ (i := 7) (N := some 113) (v := ?_) (a' := ?_) (bs 12 165) rfl rfl (any_of HT_.out (by kernel_rfl)) (fun _ _ _ h => h) (Or.inl ⟨by rfl, ?_⟩) ?_ ?_
               rotate_left
               ·intro w'
                go_simp
                with_reducible rfl
               rotate_left
               ·simp only [Act.put, sA, sB, sC, i64_w, i32_w]
                rfl
               refine take_ (i := 1) (N := some 107) (v := ?_) (a' := ?_) (bs 12 167) rfl rfl (take_ofW HT_.out HW_.out (by kernel_rfl)) (fun _ _ _ h => h) (Or.inl ⟨by rfl, ?_⟩) hHeld ?_ ?_
               rotate_left
               ·rintro w' ⟨s0, s1, s2, s3, s4, s5, s6, s7, s8, s9, s10⟩
                go_simp
                with_reducible rfl
               rotate_left
               ·simp only [Act.put, sA, sB, sC, i64_w, i32_w]
                rfl
               refine pure_ (i := 3) (N := some 109) (v := ?_) (a' := ?_) (bs 12 175) rfl rfl (any_of HT_.out (by kernel_rfl)) (fun _ _ _ h => h) (Or.inl ⟨by rfl, ?_⟩) ?_ ?_
               rotate_left
               ·intro w'
                go_simp
                with_reducible rfl
               rotate_left
               ·simp only [Act.put, sA, sB, sC, i64_w, i32_w]
                rfl
               refine take_ (i := 4) (N := some 110) (v := ?_) (a' := ?_) (bs 12 191) rfl rfl (take_ofW HT_.out HW_.out (by kernel_rfl)) (fun _ _ _ h => h) (Or.inl ⟨by rfl, ?_⟩) hHeld ?_ ?_
               rotate_left
               ·rintro w' ⟨s0, s1, s2, s3, s4, s5, s6, s7, s8, s9, s10⟩
                go_simp
                with_reducible rfl
               rotate_left
               ·simp only [Act.put, sA, sB, sC, i64_w, i32_w]
                rfl
               refine take_ (i := 6) (N := some 112) (v := ?_) (a' := ?_) (bs 12 255) rfl rfl (take_ofW HT_.out HW_.out (by kernel_rfl)) (fun _ _ _ h => h) (Or.inl ⟨by rfl, ?_⟩) hHeld ?_ ?_
               rotate_left
               ·rintro w' ⟨s0, s1, s2, s3, s4, s5, s6, s7, s8, s9, s10⟩
                go_simp
                with_reducible rfl
               rotate_left
               ·simp only [Act.put, sA, sB, sC, i64_w, i32_w]
                rfl
               refine pure_ (i := 8) (N := some 114) (v := ?_) (a' := ?_) (bs 12 511) rfl rfl (any_of HT_.out (by kernel_rfl)) (fun _ _ _ h => h) (Or.inl ⟨by rfl, ?_⟩) ?_ ?_
               rotate_left
               ·intro w'
                go_simp
                with_reducible rfl
               rotate_left
               ·simp only [Act.put, sA, sB, sC, i64_w, i32_w]
                rfl
               refine take_ (i := 9) (N := some 115) (v := ?_) (a' := ?_) (bs 12 1023) rfl rfl (take_ofW HT_.out HW_.out (by kernel_rfl)) (fun _ _ _ h => h) (Or.inl ⟨by rfl, ?_⟩) hHeld ?_ ?_
               rotate_left
               ·rintro w' ⟨s0, s1, s2, s3, s4, s5, s6, s7, s8, s9, s10⟩
                go_simp
                with_reducible rfl
               rotate_left
               ·simp only [Act.put, sA, sB, sC, i64_w, i32_w]
                rfl
               refine one_ (i := 10) (N := some 116) (bs 12 2047) rfl rfl (one_of HT_.out (by kernel_rfl)) (by decide) (fun K hK => ?_)
               refine goes_ Try.func20 (by kernel_rfl) rfl #[.agg #[.int .i64 ((rd_T37 l0_2 x103_2).f0), .int .i64 ((rd_T37 l0_2 x103_2).f1), .int .i64 ((rd_T37 l0_2 x103_2).f2), .int .i64 ((rd_T37 l0_2 x103_2).f3)], .agg #[.int .i64 ((rd_T37 l0_2 ji60).f0), .int .i64 ((rd_T37 l0_2 ji60).f1), .int .i64 ((rd_T37 l0_2 ji60).f2), .int .i64 ((rd_T37 l0_2 ji60).f3)]] (by rfl) rfl rfl (by (try simp only [List.map_toArray, List.map_cons, List.map_nil]); first | done | (simp only [hji60]; rfl) | rfl | (simp only [List.length_drop, List.length_take]; rfl)) ?_
               with_reducible refine (pixel_Dist.calls ((rd_T37 l0_2 x103_2).f0) ((rd_T37 l0_2 x103_2).f1) ((rd_T37 l0_2 x103_2).f2) ((rd_T37 l0_2 x103_2).f3) ((rd_T37 l0_2 ji60).f0) ((rd_T37 l0_2 ji60).f1) ((rd_T37 l0_2 ji60).f2) ((rd_T37 l0_2 ji60).f3) t617 _ A72.out).mono ?_
               rintro e w75 ⟨rfl, hb⟩
               refine ⟨_, rfl, ?_⟩
               replace HO_611002 := zr HO_611002 hb
               replace BK602 := zk BK602 hb
               replace BK603 := zk BK603 hb
               replace BK610 := zk BK610 hb
               replace HB := zb HB hb
               (try clear hb)
               (try clear hb2)
               (try clear hk)
               (try clear hi)
               refine hK.out _ _ ⟨(blk_cell BK602.out 0).trans rfl, (blk_cell BK602.out 1).trans rfl, (blk_cell BK602.out 2).trans rfl, ((HB.out.cell (World.block_lt_of_cell? w _ hw615_0)).trans hw615_0), ((HB.out.cell (World.block_lt_of_cell? w _ hw615_1)).trans hw615_1), ((HB.out.cell (World.block_lt_of_cell? w _ hw615_2)).trans hw615_2), ((HB.out.cell (World.block_lt_of_cell? w _ hw615_3)).trans hw615_3), ((HB.out.cell (World.block_lt_of_cell? w _ hw616_0)).trans hw616_0), ((HB.out.cell (World.block_lt_of_cell? w _ hw616_1)).trans hw616_1), ((HB.out.cell (World.block_lt_of_cell? w _ hw616_2)).trans hw616_2), ((HB.out.cell (World.block_lt_of_cell? w _ hw616_3)).trans hw616_3)⟩ (fun hHeld => ?_)
               clear hK K
               refine norm_ (a' := ?_) ?_ ?_
               rotate_left
               ·show Act.put _ (some 116) _ = _
                simp only [Act.put, sA, sB, sC, i64_w, i32_w]
                rfl
               refine pure_ (i := 11) (N := some 13) (v := ?_) (a' := ?_) (bs 12 4095) rfl rfl (any_of HT_.out (by kernel_rfl)) (fun _ _ _ h => h) (Or.inl ⟨by rfl, ?_⟩) ?_ ?_
               rotate_left
               ·intro w'
                go_simp
                with_reducible rfl
               rotate_left
               ·simp only [Act.put, sA, sB, sC, i64_w, i32_w]
                rfl
               refine done_ (done_of HT_.out (by kernel_rfl)) ?_
               go_upto_region 13 with (fail)
               go_cut [135] (fun v135 wc => ∃ (kq : Nat) (x135_72 : Bool), v135 = .bool x135_72 ∧ Aside0 (imageeditorlaw24_WandCloses.j2 kq a2 a3 ji60 x103_2 t617 (t606.length : Int) x103_2 x135_72 a0_0 a0_1 l0_2 t604 t605 t606 = some r) ∧ Aside0 (kq ≤ k2) ∧ Aside0 (Kd.R (Kd.int .i64) 3 wc w.heap.size (fun _ => True) (.slice (some ad613) t606.length co18) t606) ∧ Aside0 (wc.heap[gb602]? = some (.cells #[.int .i64 a0_0, .int .i64 a0_1, (.slice (some ad615) l0_2.length c0_2)] 24 (0, 0))) ∧ Aside0 (wc.heap[gb603]? = some (.cells #[.int .i64 a1_0, .int .i64 a1_1] 26 (0, 0))) ∧ Aside0 (wc.heap[gb610]? = some (.cells #[.int .i64 t604, .int .i64 t605, (.slice (some ad613) t606.length co18)] 29 (0, 0))) ∧ Aside0 (Below w.heap.size w wc))
               case first =>
                have H := HC73.out
                clear HC73
                by_cases c76 : x103_2 < (t606.length : Int)
                ·rw [if_pos c76] at H
                 have c76b0 : decide (x103_2 < (t606.length : Int)) = true := decide_eq_true c76
                 clear c76
                 (first | rw [c76b0] | (simp only [i64_w, i32_w]; rw [c76b0]) | skip)
                 by_cases c77 : (rd t606 x103_2) = 0
                 ·rw [if_pos c77] at H
                  have c77b0 : ((rd t606 x103_2) == 0) = true := beq_iff_eq.mpr c77
                  have c77b1 : ((rd t606 x103_2) != 0) = false := bne_eq_false_iff_eq.mpr c77
                  clear c77
                  as_aux_lemma =>
                   have H' := Aside0.mk H
                   clear H
                   obtain ⟨hcz78_0, hcz78_1, hcz78_2, hfz78_0, hfz78_1, hfz78_2⟩ := zq3 BK610
                   have p618 : 0 ≤ (x103_2 : Int) := of_decide_eq_true (by first | (with_reducible assumption) | assumption)
                   have q618 : x103_2 < (t606.length : Int) := of_decide_eq_true (by first | (with_reducible assumption) | assumption)
                   obtain ⟨ad618, e618, hx618_0⟩ := Kd.at_int (Kd.R_reads' HO_611002.out).2.2 x103_2 p618 q618
                   obtain rfl : ad613 = ad618 := (by injection e618)
                   replace p618 := eq_true p618
                   replace q618 := eq_true q618
                   go_wp2
                   go_meet
                   case rel => exact ⟨_, (false), (by first | rfl | (simp; done) | (simp [*]; done)), H', ⟨by have := HJ6.out; have := HK2.out; first | omega | exact Nat.le_refl _⟩, ⟨by exact zr0 HO_611002⟩, ⟨by exact zk0 BK602⟩, ⟨by exact zk0 BK603⟩, ⟨by exact zk0 BK610⟩, ⟨by exact zb0 HB⟩⟩
                 ·rw [if_neg c77] at H
                  have c77b0 : ((rd t606 x103_2) == 0) = false := beq_eq_false_iff_ne.mpr c77
                  have c77b1 : ((rd t606 x103_2) != 0) = true := bne_iff_ne.mpr c77
                  by_cases c79 : (rd t606 x103_2) = 65535
                  ·rw [if_pos c79] at H
                   have c79b0 : ((rd t606 x103_2) == 65535) = true := beq_iff_eq.mpr c79
                   have c79b1 : ((rd t606 x103_2) != 65535) = false := bne_eq_false_iff_eq.mpr c79
                   clear c79
                   as_aux_lemma =>
                    have H' := Aside0.mk H
                    clear H
                    obtain ⟨hcz80_0, hcz80_1, hcz80_2, hfz80_0, hfz80_1, hfz80_2⟩ := zq3 BK610
                    have p618 : 0 ≤ (x103_2 : Int) := of_decide_eq_true (by first | (with_reducible assumption) | assumption)
                    have q618 : x103_2 < (t606.length : Int) := of_decide_eq_true (by first | (with_reducible assumption) | assumption)
                    obtain ⟨ad618, e618, hx618_0⟩ := Kd.at_int (Kd.R_reads' HO_611002.out).2.2 x103_2 p618 q618
                    obtain rfl : ad613 = ad618 := (by injection e618)
                    replace p618 := eq_true p618
                    replace q618 := eq_true q618
                    have p619 : 0 ≤ (x103_2 : Int) := of_decide_eq_true (by first | (with_reducible assumption) | assumption)
                    have q619 : x103_2 < (t606.length : Int) := of_decide_eq_true (by first | (with_reducible assumption) | assumption)
                    obtain ⟨ad619, e619, hx619_0⟩ := Kd.at_int (Kd.R_reads' HO_611002.out).2.2 x103_2 p619 q619
                    obtain rfl : ad613 = ad619 := (by injection e619)
                    replace p619 := eq_true p619
                    replace q619 := eq_true q619
                    go_wp2
                    go_meet
                    case rel => exact ⟨_, (decide (t617 > a2)), (by first | rfl | (simp; done) | (simp [*]; done)), H', ⟨by have := HJ6.out; have := HK2.out; first | omega | exact Nat.le_refl _⟩, ⟨by exact zr0 HO_611002⟩, ⟨by exact zk0 BK602⟩, ⟨by exact zk0 BK603⟩, ⟨by exact zk0 BK610⟩, ⟨by exact zb0 HB⟩⟩
                  ·rw [if_neg c79] at H
                   have c79b0 : ((rd t606 x103_2) == 65535) = false := beq_eq_false_iff_ne.mpr c79
                   have c79b1 : ((rd t606 x103_2) != 65535) = true := bne_iff_ne.mpr c79
                   as_aux_lemma =>
                    have H' := Aside0.mk H
                    clear H
                    obtain ⟨hcz81_0, hcz81_1, hcz81_2, hfz81_0, hfz81_1, hfz81_2⟩ := zq3 BK610
                    have p618 : 0 ≤ (x103_2 : Int) := of_decide_eq_true (by first | (with_reducible assumption) | assumption)
                    have q618 : x103_2 < (t606.length : Int) := of_decide_eq_true (by first | (with_reducible assumption) | assumption)
                    obtain ⟨ad618, e618, hx618_0⟩ := Kd.at_int (Kd.R_reads' HO_611002.out).2.2 x103_2 p618 q618
                    obtain rfl : ad613 = ad618 := (by injection e618)
                    replace p618 := eq_true p618
                    replace q618 := eq_true q618
                    have p619 : 0 ≤ (x103_2 : Int) := of_decide_eq_true (by first | (with_reducible assumption) | assumption)
                    have q619 : x103_2 < (t606.length : Int) := of_decide_eq_true (by first | (with_reducible assumption) | assumption)
                    obtain ⟨ad619, e619, hx619_0⟩ := Kd.at_int (Kd.R_reads' HO_611002.out).2.2 x103_2 p619 q619
                    obtain rfl : ad613 = ad619 := (by injection e619)
                    replace p619 := eq_true p619
                    replace q619 := eq_true q619
                    go_wp2
                    go_meet
                    case rel => exact ⟨_, (true), (by first | rfl | (simp; done) | (simp [*]; done)), H', ⟨by have := HJ6.out; have := HK2.out; first | omega | exact Nat.le_refl _⟩, ⟨by exact zr0 HO_611002⟩, ⟨by exact zk0 BK602⟩, ⟨by exact zk0 BK603⟩, ⟨by exact zk0 BK610⟩, ⟨by exact zb0 HB⟩⟩
                ·rw [if_neg c76] at H
                 exact absurd H (by simp)
               case rest =>
                clear HC73
                try clear c1
                try clear c2
                try clear p2
                try clear q2
                try clear c3
                try clear q3
                try clear c4
                try clear c5
                try clear c6
                try clear c6b0
                try clear c6b1
                try clear p6
                try clear q6
                try clear hx6
                try clear c7
                try clear c9
                try clear c10
                try clear c15
                try clear c16
                try clear c19
                try clear c20
                try clear c20b0
                try clear c20b1
                try clear c21
                try clear c21b0
                try clear c25
                try clear c25b0
                try clear c30
                try clear c30b0
                try clear c35
                try clear c35b0
                try clear c40
                try clear c40b0
                try clear c40b1
                try clear c41
                try clear c41b0
                try clear c41b1
                try clear c59
                try clear c61
                try clear c61b0
                try clear p61
                try clear q61
                try clear hx61
                try clear c62
                try clear c62b0
                try clear c63
                try clear c63b0
                try clear c63b1
                try clear p64
                try clear c67
                try clear c67b0
                try clear c68
                try clear c68b0
                try clear c69
                try clear c69b0
                try clear c70
                try clear c70b0
                try clear c71
                try clear c71b0
                try clear c76
                try clear c76b0
                try clear c77
                try clear c77b0
                try clear c77b1
                try clear c79
                try clear c79b0
                try clear c79b1
                try clear hcz11_0
                try clear hcz11_1
                try clear hcz11_2
                try clear hcz12_0
                try clear hcz12_1
                try clear hcz17_0
                try clear hcz17_1
                try clear hcz17_2
                try clear hcz22_0
                try clear hcz22_1
                try clear hcz22_2
                try clear hcz24_0
                try clear hcz24_1
                try clear hcz26_0
                try clear hcz26_1
                try clear hcz26_2
                try clear hcz28_0
                try clear hcz28_1
                try clear hcz29_0
                try clear hcz29_1
                try clear hcz29_2
                try clear hcz31_0
                try clear hcz31_1
                try clear hcz31_2
                try clear hcz33_0
                try clear hcz33_1
                try clear hcz34_0
                try clear hcz34_1
                try clear hcz34_2
                try clear hcz36_0
                try clear hcz36_1
                try clear hcz36_2
                try clear hcz38_0
                try clear hcz38_1
                try clear hcz39_0
                try clear hcz39_1
                try clear hcz39_2
                try clear hcz42_0
                try clear hcz42_1
                try clear hcz42_2
                try clear hcz44_0
                try clear hcz44_1
                try clear hcz45_0
                try clear hcz45_1
                try clear hcz45_2
                try clear hcz46_0
                try clear hcz46_1
                try clear hcz46_2
                try clear hcz47_0
                try clear hcz47_1
                try clear hcz47_2
                try clear hcz49_0
                try clear hcz49_1
                try clear hcz50_0
                try clear hcz50_1
                try clear hcz50_2
                try clear hcz51_0
                try clear hcz51_1
                try clear hcz51_2
                try clear hcz52_0
                try clear hcz52_1
                try clear hcz52_2
                try clear hcz54_0
                try clear hcz54_1
                try clear hcz55_0
                try clear hcz55_1
                try clear hcz55_2
                try clear hcz56_0
                try clear hcz56_1
                try clear hcz56_2
                try clear hcz57_0
                try clear hcz57_1
                try clear hcz57_2
                try clear hcz64_0
                try clear hcz64_1
                try clear hcz65_0
                try clear hcz65_1
                try clear hcz65_2
                try clear hcz66_0
                try clear hcz66_1
                try clear hcz66_2
                try clear hcz78_0
                try clear hcz78_1
                try clear hcz78_2
                try clear hcz80_0
                try clear hcz80_1
                try clear hcz80_2
                try clear hcz81_0
                try clear hcz81_1
                try clear hcz81_2
                try clear hfz11_0
                try clear hfz11_1
                try clear hfz11_2
                try clear hfz12_0
                try clear hfz12_1
                try clear hfz17_0
                try clear hfz17_1
                try clear hfz17_2
                try clear hfz22_0
                try clear hfz22_1
                try clear hfz22_2
                try clear hfz24_0
                try clear hfz24_1
                try clear hfz26_0
                try clear hfz26_1
                try clear hfz26_2
                try clear hfz28_0
                try clear hfz28_1
                try clear hfz29_0
                try clear hfz29_1
                try clear hfz29_2
                try clear hfz31_0
                try clear hfz31_1
                try clear hfz31_2
                try clear hfz33_0
                try clear hfz33_1
                try clear hfz34_0
                try clear hfz34_1
                try clear hfz34_2
                try clear hfz36_0
                try clear hfz36_1
                try clear hfz36_2
                try clear hfz38_0
                try clear hfz38_1
                try clear hfz39_0
                try clear hfz39_1
                try clear hfz39_2
                try clear hfz42_0
                try clear hfz42_1
                try clear hfz42_2
                try clear hfz44_0
                try clear hfz44_1
                try clear hfz45_0
                try clear hfz45_1
                try clear hfz45_2
                try clear hfz46_0
                try clear hfz46_1
                try clear hfz46_2
                try clear hfz47_0
                try clear hfz47_1
                try clear hfz47_2
                try clear hfz49_0
                try clear hfz49_1
                try clear hfz50_0
                try clear hfz50_1
                try clear hfz50_2
                try clear hfz51_0
                try clear hfz51_1
                try clear hfz51_2
                try clear hfz52_0
                try clear hfz52_1
                try clear hfz52_2
                try clear hfz54_0
                try clear hfz54_1
                try clear hfz55_0
                try clear hfz55_1
                try clear hfz55_2
                try clear hfz56_0
                try clear hfz56_1
                try clear hfz56_2
                try clear hfz57_0
                try clear hfz57_1
                try clear hfz57_2
                try clear hfz64_0
                try clear hfz64_1
                try clear hfz65_0
                try clear hfz65_1
                try clear hfz65_2
                try clear hfz66_0
                try clear hfz66_1
                try clear hfz66_2
                try clear hfz78_0
                try clear hfz78_1
                try clear hfz78_2
                try clear hfz80_0
                try clear hfz80_1
                try clear hfz80_2
                try clear hfz81_0
                try clear hfz81_1
                try clear hfz81_2
                try clear hx613_0
                try clear hx615_0
                try clear hx615_1
                try clear hx615_2
                try clear hx615_3
                try clear hx616_0
                try clear hx616_1
                try clear hx616_2
                try clear hx616_3
                try clear hx618_0
                try clear hx619_0
                try clear p2
                try clear p6
                try clear p61
                try clear p613
                try clear p615
                try clear p616
                try clear p618
                try clear p619
                try clear p64
                try clear q2
                try clear q3
                try clear q6
                try clear q61
                try clear q613
                try clear q615
                try clear q616
                try clear q618
                try clear q619
                obtain ⟨kq, x135_72, rfl, HA, HJ72, HO_611002, BK602, BK603, BK610, HB⟩ := hcut
                cases kq with
                | zero => exact absurd HA.out (by simp [imageeditorlaw24_WandCloses.j2])
                | succ kj72 =>
                 have H := HA.out
                 clear HA
                 simp only [imageeditorlaw24_WandCloses.j2] at H
                 by_cases c82 : x135_72 = true
                 ·subst c82
                  have H1 : (some false) = some r := by rw [if_pos rfl] at H; exact H
                  clear H
                  have H := H1
                  clear H1
                  as_aux_lemma =>
                   exact absurd HT.out (by rw [← Option.some.inj H]; decide)
                 ·replace c82 := Bool.eq_false_iff.mpr c82
                  subst c82
                  have H1 : (if 0 ≤ x103_2 then (if x103_2 < (t606.length : Int) then (if (rd t606 x103_2) = 0 then (imageeditorlaw24_WandCloses.j3 kj72 a2 a3 ji60 x103_2 (t606.length : Int) x103_2 (decide (t617 > a2)) a0_0 a0_1 l0_2 t604 t605 t606) else (imageeditorlaw24_WandCloses.j3 kj72 a2 a3 ji60 x103_2 (t606.length : Int) x103_2 true a0_0 a0_1 l0_2 t604 t605 t606)) else (none)) else (none)) = some r := by rw [if_neg (show ¬ (false = true) by decide)] at H; exact H
                  clear H
                  have H := H1
                  clear H1
                  have HC83 := Aside0.mk H
                  clear H
                  go_upto_region 15 with (fail)
                  go_cut [146] (fun v146 wc => ∃ (kq : Nat) (x146_82 : Bool), v146 = .bool x146_82 ∧ Aside0 (imageeditorlaw24_WandCloses.j3 kq a2 a3 ji60 x103_2 (t606.length : Int) x103_2 x146_82 a0_0 a0_1 l0_2 t604 t605 t606 = some r) ∧ Aside0 (kq ≤ kj72) ∧ Aside0 (Kd.R (Kd.int .i64) 3 wc w.heap.size (fun _ => True) (.slice (some ad613) t606.length co18) t606) ∧ Aside0 (wc.heap[gb602]? = some (.cells #[.int .i64 a0_0, .int .i64 a0_1, (.slice (some ad615) l0_2.length c0_2)] 24 (0, 0))) ∧ Aside0 (wc.heap[gb603]? = some (.cells #[.int .i64 a1_0, .int .i64 a1_1] 26 (0, 0))) ∧ Aside0 (wc.heap[gb610]? = some (.cells #[.int .i64 t604, .int .i64 t605, (.slice (some ad613) t606.length co18)] 29 (0, 0))) ∧ Aside0 (Below w.heap.size w wc))
                  case first =>
                   have H := HC83.out
                   clear HC83
                   by_cases c84 : 0 ≤ x103_2
                   ·rw [if_pos c84] at H
                    have c84b0 : decide (0 ≤ x103_2) = true := decide_eq_true c84
                    clear c84
                    (first | rw [c84b0] | (simp only [i64_w, i32_w]; rw [c84b0]) | skip)
                    by_cases c85 : x103_2 < (t606.length : Int)
                    ·rw [if_pos c85] at H
                     have c85b0 : decide (x103_2 < (t606.length : Int)) = true := decide_eq_true c85
                     clear c85
                     by_cases c86 : (rd t606 x103_2) = 0
                     ·rw [if_pos c86] at H
                      have c86b0 : ((rd t606 x103_2) == 0) = true := beq_iff_eq.mpr c86
                      have c86b1 : ((rd t606 x103_2) != 0) = false := bne_eq_false_iff_eq.mpr c86
                      clear c86
                      as_aux_lemma =>
                       have H' := Aside0.mk H
                       clear H
                       obtain ⟨hcz87_0, hcz87_1, hcz87_2, hfz87_0, hfz87_1, hfz87_2⟩ := zq3 BK610
                       have p620 : 0 ≤ (x103_2 : Int) := of_decide_eq_true (by first | (with_reducible assumption) | assumption)
                       have q620 : x103_2 < (t606.length : Int) := of_decide_eq_true (by first | (with_reducible assumption) | assumption)
                       obtain ⟨ad620, e620, hx620_0⟩ := Kd.at_int (Kd.R_reads' HO_611002.out).2.2 x103_2 p620 q620
                       obtain rfl : ad613 = ad620 := (by injection e620)
                       replace p620 := eq_true p620
                       replace q620 := eq_true q620
                       go_wp2
                       go_meet
                       case rel => exact ⟨_, (decide (t617 > a2)), (by first | rfl | (simp; done) | (simp [*]; done)), H', ⟨by have := HJ6.out; have := HK2.out; have := HJ72.out; first | omega | exact Nat.le_refl _⟩, ⟨by exact zr0 HO_611002⟩, ⟨by exact zk0 BK602⟩, ⟨by exact zk0 BK603⟩, ⟨by exact zk0 BK610⟩, ⟨by exact zb0 HB⟩⟩
                     ·rw [if_neg c86] at H
                      have c86b0 : ((rd t606 x103_2) == 0) = false := beq_eq_false_iff_ne.mpr c86
                      have c86b1 : ((rd t606 x103_2) != 0) = true := bne_iff_ne.mpr c86
                      as_aux_lemma =>
                       have H' := Aside0.mk H
                       clear H
                       obtain ⟨hcz88_0, hcz88_1, hcz88_2, hfz88_0, hfz88_1, hfz88_2⟩ := zq3 BK610
                       have p620 : 0 ≤ (x103_2 : Int) := of_decide_eq_true (by first | (with_reducible assumption) | assumption)
                       have q620 : x103_2 < (t606.length : Int) := of_decide_eq_true (by first | (with_reducible assumption) | assumption)
                       obtain ⟨ad620, e620, hx620_0⟩ := Kd.at_int (Kd.R_reads' HO_611002.out).2.2 x103_2 p620 q620
                       obtain rfl : ad613 = ad620 := (by injection e620)
                       replace p620 := eq_true p620
                       replace q620 := eq_true q620
                       go_wp2
                       go_meet
                       case rel => exact ⟨_, (true), (by first | rfl | (simp; done) | (simp [*]; done)), H', ⟨by have := HJ6.out; have := HK2.out; have := HJ72.out; first | omega | exact Nat.le_refl _⟩, ⟨by exact zr0 HO_611002⟩, ⟨by exact zk0 BK602⟩, ⟨by exact zk0 BK603⟩, ⟨by exact zk0 BK610⟩, ⟨by exact zb0 HB⟩⟩
                    ·rw [if_neg c85] at H
                     exact absurd H (by simp)
                   ·rw [if_neg c84] at H
                    exact absurd H (by simp)
                  case rest =>
                   clear HC83
                   try clear c1
                   try clear c2
                   try clear p2
                   try clear q2
                   try clear c3
                   try clear q3
                   try clear c4
                   try clear c5
                   try clear c6
                   try clear c6b0
                   try clear c6b1
                   try clear p6
                   try clear q6
                   try clear hx6
                   try clear c7
                   try clear c8
                   try clear c9
                   try clear c10
                   try clear c15
                   try clear c16
                   try clear c19
                   try clear c20
                   try clear c20b0
                   try clear c20b1
                   try clear c21
                   try clear c21b0
                   try clear c25
                   try clear c25b0
                   try clear c30
                   try clear c30b0
                   try clear c35
                   try clear c35b0
                   try clear c40
                   try clear c40b0
                   try clear c40b1
                   try clear c41
                   try clear c41b0
                   try clear c41b1
                   try clear c59
                   try clear c61
                   try clear c61b0
                   try clear p61
                   try clear q61
                   try clear hx61
                   try clear c62
                   try clear c62b0
                   try clear p62
                   try clear q62
                   try clear hx62
                   try clear c63
                   try clear c63b0
                   try clear c63b1
                   try clear p64
                   try clear c67
                   try clear c67b0
                   try clear c68
                   try clear c68b0
                   try clear c69
                   try clear c69b0
                   try clear c70
                   try clear c70b0
                   try clear c71
                   try clear c71b0
                   try clear c76
                   try clear c76b0
                   try clear c77
                   try clear c77b0
                   try clear c77b1
                   try clear c79
                   try clear c79b0
                   try clear c79b1
                   try clear c82
                   try clear c84
                   try clear c84b0
                   try clear c85
                   try clear c85b0
                   try clear c86
                   try clear c86b0
                   try clear c86b1
                   try clear hcz11_0
                   try clear hcz11_1
                   try clear hcz11_2
                   try clear hcz12_0
                   try clear hcz12_1
                   try clear hcz17_0
                   try clear hcz17_1
                   try clear hcz17_2
                   try clear hcz22_0
                   try clear hcz22_1
                   try clear hcz22_2
                   try clear hcz24_0
                   try clear hcz24_1
                   try clear hcz26_0
                   try clear hcz26_1
                   try clear hcz26_2
                   try clear hcz28_0
                   try clear hcz28_1
                   try clear hcz29_0
                   try clear hcz29_1
                   try clear hcz29_2
                   try clear hcz31_0
                   try clear hcz31_1
                   try clear hcz31_2
                   try clear hcz33_0
                   try clear hcz33_1
                   try clear hcz34_0
                   try clear hcz34_1
                   try clear hcz34_2
                   try clear hcz36_0
                   try clear hcz36_1
                   try clear hcz36_2
                   try clear hcz38_0
                   try clear hcz38_1
                   try clear hcz39_0
                   try clear hcz39_1
                   try clear hcz39_2
                   try clear hcz42_0
                   try clear hcz42_1
                   try clear hcz42_2
                   try clear hcz44_0
                   try clear hcz44_1
                   try clear hcz45_0
                   try clear hcz45_1
                   try clear hcz45_2
                   try clear hcz46_0
                   try clear hcz46_1
                   try clear hcz46_2
                   try clear hcz47_0
                   try clear hcz47_1
                   try clear hcz47_2
                   try clear hcz49_0
                   try clear hcz49_1
                   try clear hcz50_0
                   try clear hcz50_1
                   try clear hcz50_2
                   try clear hcz51_0
                   try clear hcz51_1
                   try clear hcz51_2
                   try clear hcz52_0
                   try clear hcz52_1
                   try clear hcz52_2
                   try clear hcz54_0
                   try clear hcz54_1
                   try clear hcz55_0
                   try clear hcz55_1
                   try clear hcz55_2
                   try clear hcz56_0
                   try clear hcz56_1
                   try clear hcz56_2
                   try clear hcz57_0
                   try clear hcz57_1
                   try clear hcz57_2
                   try clear hcz64_0
                   try clear hcz64_1
                   try clear hcz65_0
                   try clear hcz65_1
                   try clear hcz65_2
                   try clear hcz66_0
                   try clear hcz66_1
                   try clear hcz66_2
                   try clear hcz78_0
                   try clear hcz78_1
                   try clear hcz78_2
                   try clear hcz80_0
                   try clear hcz80_1
                   try clear hcz80_2
                   try clear hcz81_0
                   try clear hcz81_1
                   try clear hcz81_2
                   try clear hcz87_0
                   try clear hcz87_1
                   try clear hcz87_2
                   try clear hcz88_0
                   try clear hcz88_1
                   try clear hcz88_2
                   try clear hfz11_0
                   try clear hfz11_1
                   try clear hfz11_2
                   try clear hfz12_0
                   try clear hfz12_1
                   try clear hfz17_0
                   try clear hfz17_1
                   try clear hfz17_2
                   try clear hfz22_0
                   try clear hfz22_1
                   try clear hfz22_2
                   try clear hfz24_0
                   try clear hfz24_1
                   try clear hfz26_0
                   try clear hfz26_1
                   try clear hfz26_2
                   try clear hfz28_0
                   try clear hfz28_1
                   try clear hfz29_0
                   try clear hfz29_1
                   try clear hfz29_2
                   try clear hfz31_0
                   try clear hfz31_1
                   try clear hfz31_2
                   try clear hfz33_0
                   try clear hfz33_1
                   try clear hfz34_0
                   try clear hfz34_1
                   try clear hfz34_2
                   try clear hfz36_0
                   try clear hfz36_1
                   try clear hfz36_2
                   try clear hfz38_0
                   try clear hfz38_1
                   try clear hfz39_0
                   try clear hfz39_1
                   try clear hfz39_2
                   try clear hfz42_0
                   try clear hfz42_1
                   try clear hfz42_2
                   try clear hfz44_0
                   try clear hfz44_1
                   try clear hfz45_0
                   try clear hfz45_1
                   try clear hfz45_2
                   try clear hfz46_0
                   try clear hfz46_1
                   try clear hfz46_2
                   try clear hfz47_0
                   try clear hfz47_1
                   try clear hfz47_2
                   try clear hfz49_0
                   try clear hfz49_1
                   try clear hfz50_0
                   try clear hfz50_1
                   try clear hfz50_2
                   try clear hfz51_0
                   try clear hfz51_1
                   try clear hfz51_2
                   try clear hfz52_0
                   try clear hfz52_1
                   try clear hfz52_2
                   try clear hfz54_0
                   try clear hfz54_1
                   try clear hfz55_0
                   try clear hfz55_1
                   try clear hfz55_2
                   try clear hfz56_0
                   try clear hfz56_1
                   try clear hfz56_2
                   try clear hfz57_0
                   try clear hfz57_1
                   try clear hfz57_2
                   try clear hfz64_0
                   try clear hfz64_1
                   try clear hfz65_0
                   try clear hfz65_1
                   try clear hfz65_2
                   try clear hfz66_0
                   try clear hfz66_1
                   try clear hfz66_2
                   try clear hfz78_0
                   try clear hfz78_1
                   try clear hfz78_2
                   try clear hfz80_0
                   try clear hfz80_1
                   try clear hfz80_2
                   try clear hfz81_0
                   try clear hfz81_1
                   try clear hfz81_2
                   try clear hfz87_0
                   try clear hfz87_1
                   try clear hfz87_2
                   try clear hfz88_0
                   try clear hfz88_1
                   try clear hfz88_2
                   try clear hx613_0
                   try clear hx615_0
                   try clear hx615_1
                   try clear hx615_2
                   try clear hx615_3
                   try clear hx616_0
                   try clear hx616_1
                   try clear hx616_2
                   try clear hx616_3
                   try clear hx618_0
                   try clear hx619_0
                   try clear hx620_0
                   try clear p2
                   try clear p6
                   try clear p61
                   try clear p613
                   try clear p615
                   try clear p616
                   try clear p618
                   try clear p619
                   try clear p620
                   try clear p64
                   try clear q2
                   try clear q3
                   try clear q6
                   try clear q61
                   try clear q613
                   try clear q615
                   try clear q616
                   try clear q618
                   try clear q619
                   try clear q620
                   obtain ⟨kq, x146_82, rfl, HA, HJ82, HO_611002, BK602, BK603, BK610, HB⟩ := hcut
                   cases kq with
                   | zero => exact absurd HA.out (by simp [imageeditorlaw24_WandCloses.j3])
                   | succ kj82 =>
                    have H := HA.out
                    clear HA
                    simp only [imageeditorlaw24_WandCloses.j3] at H
                    by_cases c89 : x146_82 = true
                    ·subst c89
                     have H1 : (imageeditorlaw24_WandCloses.l0 kj82 a2 a3 ji60 (t606.length : Int) (wrap64 (x103_2 + 1)) a0_0 a0_1 l0_2 t604 t605 t606) = some r := by rw [if_pos rfl] at H; exact H
                     clear H
                     have H := H1
                     clear H1
                     as_aux_lemma =>
                      have H' := Aside0.mk H
                      clear H
                      go_wp2
                      first | go_roundg kj82 | ((try subst hji60); go_roundg kj82)
                      case measure => have := HJ6.out; have := HK2.out; have := HJ72.out; have := HJ82.out; omega
                      case rel => first | (exact ⟨(wrap64 (x103_2 + 1)), (by first | rfl | (simp; done) | (simp [*]; done)), H', ⟨by have := HJ6.out; have := HK2.out; have := HJ72.out; have := HJ82.out; omega⟩, ⟨by exact zr0 HO_611002⟩, ⟨by exact zk0 BK602⟩, ⟨by exact zk0 BK603⟩, ⟨by exact zk0 BK610⟩, ⟨by exact zb0 HB⟩⟩) | (exact ⟨(wrap64 (x103_2 + 1)), (by first | rfl | (simp; done) | (simp [*]; done)), H', ⟨by have := HJ6.out; have := HK2.out; have := HJ72.out; have := HJ82.out; omega⟩, ⟨by exact zr0 HO_611002⟩, ⟨by exact zk0 BK602⟩, ⟨by exact zk0 BK603⟩, ⟨by exact zk0 BK610⟩, ⟨by exact zb0 HB⟩⟩)
                    ·replace c89 := Bool.eq_false_iff.mpr c89
                     subst c89
                     have H1 : (if a0_0 = 0 then (none) else (imageeditorlaw24_WandCloses.l1 kj82 a2 a3 ji60 (Int.tmod x103_2 a0_0) (wrap64 (Int.tdiv x103_2 a0_0)) (t606.length : Int) x103_2 0 a0_0 a0_1 l0_2 t604 t605 t606)) = some r := by rw [if_neg (show ¬ (false = true) by decide)] at H; exact H
                     clear H
                     have H := H1
                     clear H1
                     by_cases c90 : a0_0 = 0
                     ·rw [if_pos c90] at H
                      exact absurd H (by simp)
                     ·rw [if_neg c90] at H
                      have c90b0 : (a0_0 == 0) = false := beq_eq_false_iff_ne.mpr c90
                      have c90b1 : (a0_0 != 0) = true := bne_iff_ne.mpr c90
                      have H' := Aside0.mk H
                      clear H
                      try go_wp2
                      replace HO_611002 := zrd HO_611002
                      replace BK602 := zkd BK602
                      replace BK603 := zkd BK603
                      replace BK610 := zkd BK610
                      replace HB := zbd HB
                      refine start_ (n := 10) (S := fun w' => w'.cell? ⟨gb602, 0, none⟩ = some (.int .i64 a0_0) ∧ w'.cell? ⟨gb602, 1, none⟩ = some (.int .i64 a0_1) ∧ w'.cell? ⟨gb602, 2, none⟩ = some (.slice (some ad615) l0_2.length c0_2)) (ds := []) (bs 10 0) (by kernel_rfl) rfl rfl ⟨(blk_cell BK602.out 0).trans rfl, (blk_cell BK602.out 1).trans rfl, (blk_cell BK602.out 2).trans rfl⟩ (fun hHeld => ?_); refine with_tabW imageeditorlaw24_WandCloses.tab16 imageeditorlaw24_WandCloses.bits16 (fun HT_ HW_ => ?_)
                      generalize wc.drew = w91 at HO_611002 BK602 BK603 BK610 HB hHeld ⊢
                      refine pure_ (i := 0) (N := some 147) (v := ?_) (a' := ?_) (bs 10 1) rfl rfl (any_of HT_.out (by kernel_rfl)) (fun _ _ _ h => h) (Or.inl ⟨by rfl, ?_⟩) ?_ ?_
                      rotate_left
                      ·intro w'
                       go_simp
                       with_reducible rfl
                      rotate_left
                      ·simp only [Act.put, sA, sB, sC, i64_w, i32_w]
                       rfl
                      refine pure_ (i := 1) (N := some 148) (v := ?_) (a' := ?_) (bs 10 3) rfl rfl (any_of HT_.out (by kernel_rfl)) (fun _ _ _ h => h) (Or.inl ⟨by rfl, ?_⟩) ?_ ?_
                      rotate_left
                      ·intro w'
                       go_simp
                       with_reducible rfl
                      rotate_left
                      ·simp only [Act.put, sA, sB, sC, i64_w, i32_w]
                       rfl
                      refine pure_ (i := 4) (N := some 151) (v := ?_) (a' := ?_) (bs 10 19) rfl rfl (any_of HT_.out (by kernel_rfl)) (fun _ _ _ h => h) (Or.inl ⟨by rfl, ?_⟩) ?_ ?_
                      rotate_left
                      ·intro w'
                       go_simp
                       with_reducible rfl
                      rotate_left
                      ·simp only [Act.put, sA, sB, sC, i64_w, i32_w]
                       rfl
                      refine pure_ (i := 5) (N := some 152) (v := ?_) (a' := ?_) (bs 10 51) rfl rfl (any_of HT_.out (by kernel_rfl)) (fun _ _ _ h => h) (Or.inl ⟨by rfl, ?_⟩) ?_ ?_
                      rotate_left
                      ·intro w'
                       go_simp
                       with_reducible rfl
                      rotate_left
                      ·simp only [Act.put, sA, sB, sC, i64_w, i32_w]
                       rfl
                      refine take_ (i := 2) (N := some 149) (v := ?_) (a' := ?_) (bs 10 55) rfl rfl (take_ofW HT_.out HW_.out (by kernel_rfl)) (fun _ _ _ h => h) (Or.inl ⟨by rfl, ?_⟩) hHeld ?_ ?_
                      rotate_left
                      ·rintro w' ⟨s0, s1, s2⟩
                       go_simp
                       with_reducible rfl
                      rotate_left
                      ·simp only [Act.put, sA, sB, sC, i64_w, i32_w]
                       rfl
                      refine pure_ (i := 3) (N := some 150) (v := ?_) (a' := ?_) (bs 10 63) rfl rfl (any_of HT_.out (by kernel_rfl)) (fun _ _ _ h => h) (Or.inl ⟨by rfl, ?_⟩) ?_ ?_
                      rotate_left
                      ·intro w'
                       go_simp
                       with_reducible rfl
                      rotate_left
                      ·simp only [Act.put, sA, sB, sC, i64_w, i32_w]
                       rfl
                      refine pure_ (i := 8) (N := some 14) (v := ?_) (a' := ?_) (bs 10 319) rfl rfl (any_of HT_.out (by kernel_rfl)) (fun _ _ _ h => h) (Or.inl ⟨by rfl, ?_⟩) ?_ ?_
                      rotate_left
                      ·intro w'
                       go_simp
                       with_reducible rfl
                      rotate_left
                      ·simp only [Act.put, sA, sB, sC, i64_w, i32_w]
                       rfl
                      refine take_ (i := 6) (N := some 153) (v := ?_) (a' := ?_) (bs 10 383) rfl rfl (take_ofW HT_.out HW_.out (by kernel_rfl)) (fun _ _ _ h => h) (Or.inl ⟨by rfl, ?_⟩) hHeld ?_ ?_
                      rotate_left
                      ·rintro w' ⟨s0, s1, s2⟩
                       go_simp
                       with_reducible rfl
                      rotate_left
                      ·simp only [Act.put, sA, sB, sC, i64_w, i32_w]
                       rfl
                      refine pure_ (i := 7) (N := some 154) (v := ?_) (a' := ?_) (bs 10 511) rfl rfl (any_of HT_.out (by kernel_rfl)) (fun _ _ _ h => h) (Or.inl ⟨by rfl, ?_⟩) ?_ ?_
                      rotate_left
                      ·intro w'
                       go_simp
                       with_reducible rfl
                      rotate_left
                      ·simp only [Act.put, sA, sB, sC, i64_w, i32_w]
                       rfl
                      refine pure_ (i := 9) (N := some 15) (v := ?_) (a' := ?_) (bs 10 1023) rfl rfl (any_of HT_.out (by kernel_rfl)) (fun _ _ _ h => h) (Or.inl ⟨by rfl, ?_⟩) ?_ ?_
                      rotate_left
                      ·intro w'
                       go_simp
                       with_reducible rfl
                      rotate_left
                      ·simp only [Act.put, sA, sB, sC, i64_w, i32_w]
                       rfl
                      refine done_ (done_of HT_.out (by kernel_rfl)) ?_
                      try go_wp2
                      go_loopg [155] kj82 (fun kq v155 w' => ∃ (x155_5 : Int), v155 = .int .i64 x155_5 ∧ Aside0 (imageeditorlaw24_WandCloses.l1 kq a2 a3 ji60 (Int.tmod x103_2 a0_0) (wrap64 (Int.tdiv x103_2 a0_0)) (t606.length : Int) x103_2 x155_5 a0_0 a0_1 l0_2 t604 t605 t606 = some r) ∧ Aside0 (kq ≤ kj82) ∧ Aside0 (Kd.R (Kd.int .i64) 3 w' w.heap.size (fun _ => True) (.slice (some ad613) t606.length co18) t606) ∧ Aside0 (w'.heap[gb602]? = some (.cells #[.int .i64 a0_0, .int .i64 a0_1, (.slice (some ad615) l0_2.length c0_2)] 24 (0, 0))) ∧ Aside0 (w'.heap[gb603]? = some (.cells #[.int .i64 a1_0, .int .i64 a1_1] 26 (0, 0))) ∧ Aside0 (w'.heap[gb610]? = some (.cells #[.int .i64 t604, .int .i64 t605, (.slice (some ad613) t606.length co18)] 29 (0, 0))) ∧ Aside0 (Below w.heap.size w w'))
                      case atStart => exact ⟨(0), (by first | rfl | (simp; done) | (simp [*]; done)), H', ⟨Nat.le_refl _⟩, ⟨by exact zr0 HO_611002⟩, ⟨by exact zk0 BK602⟩, ⟨by exact zk0 BK603⟩, ⟨by exact zk0 BK610⟩, ⟨by exact zb0 HB⟩⟩
                      case round =>
                       clear H'
                       try clear c1
                       try clear c2
                       try clear p2
                       try clear q2
                       try clear c3
                       try clear q3
                       try clear c4
                       try clear c5
                       try clear c6
                       try clear c6b0
                       try clear c6b1
                       try clear p6
                       try clear q6
                       try clear hx6
                       try clear c7
                       try clear c8
                       try clear c9
                       try clear c10
                       try clear c15
                       try clear c16
                       try clear c19
                       try clear c20
                       try clear c20b0
                       try clear c20b1
                       try clear c21
                       try clear c21b0
                       try clear c25
                       try clear c25b0
                       try clear c30
                       try clear c30b0
                       try clear c35
                       try clear c35b0
                       try clear c40
                       try clear c40b0
                       try clear c40b1
                       try clear c41
                       try clear c41b0
                       try clear c41b1
                       try clear c59
                       try clear c61
                       try clear c61b0
                       try clear p61
                       try clear q61
                       try clear hx61
                       try clear c62
                       try clear c62b0
                       try clear p62
                       try clear q62
                       try clear hx62
                       try clear c63
                       try clear c63b0
                       try clear c63b1
                       try clear p64
                       try clear c67
                       try clear c67b0
                       try clear c68
                       try clear c68b0
                       try clear c69
                       try clear c69b0
                       try clear c70
                       try clear c70b0
                       try clear c71
                       try clear c71b0
                       try clear c76
                       try clear c76b0
                       try clear c77
                       try clear c77b0
                       try clear c77b1
                       try clear c79
                       try clear c79b0
                       try clear c79b1
                       try clear c82
                       try clear c84
                       try clear c84b0
                       try clear c85
                       try clear c85b0
                       try clear c86
                       try clear c86b0
                       try clear c86b1
                       try clear c89
                       try clear c90
                       try clear c90b0
                       try clear c90b1
                       try clear hcz11_0
                       try clear hcz11_1
                       try clear hcz11_2
                       try clear hcz12_0
                       try clear hcz12_1
                       try clear hcz17_0
                       try clear hcz17_1
                       try clear hcz17_2
                       try clear hcz22_0
                       try clear hcz22_1
                       try clear hcz22_2
                       try clear hcz24_0
                       try clear hcz24_1
                       try clear hcz26_0
                       try clear hcz26_1
                       try clear hcz26_2
                       try clear hcz28_0
                       try clear hcz28_1
                       try clear hcz29_0
                       try clear hcz29_1
                       try clear hcz29_2
                       try clear hcz31_0
                       try clear hcz31_1
                       try clear hcz31_2
                       try clear hcz33_0
                       try clear hcz33_1
                       try clear hcz34_0
                       try clear hcz34_1
                       try clear hcz34_2
                       try clear hcz36_0
                       try clear hcz36_1
                       try clear hcz36_2
                       try clear hcz38_0
                       try clear hcz38_1
                       try clear hcz39_0
                       try clear hcz39_1
                       try clear hcz39_2
                       try clear hcz42_0
                       try clear hcz42_1
                       try clear hcz42_2
                       try clear hcz44_0
                       try clear hcz44_1
                       try clear hcz45_0
                       try clear hcz45_1
                       try clear hcz45_2
                       try clear hcz46_0
                       try clear hcz46_1
                       try clear hcz46_2
                       try clear hcz47_0
                       try clear hcz47_1
                       try clear hcz47_2
                       try clear hcz49_0
                       try clear hcz49_1
                       try clear hcz50_0
                       try clear hcz50_1
                       try clear hcz50_2
                       try clear hcz51_0
                       try clear hcz51_1
                       try clear hcz51_2
                       try clear hcz52_0
                       try clear hcz52_1
                       try clear hcz52_2
                       try clear hcz54_0
                       try clear hcz54_1
                       try clear hcz55_0
                       try clear hcz55_1
                       try clear hcz55_2
                       try clear hcz56_0
                       try clear hcz56_1
                       try clear hcz56_2
                       try clear hcz57_0
                       try clear hcz57_1
                       try clear hcz57_2
                       try clear hcz64_0
                       try clear hcz64_1
                       try clear hcz65_0
                       try clear hcz65_1
                       try clear hcz65_2
                       try clear hcz66_0
                       try clear hcz66_1
                       try clear hcz66_2
                       try clear hcz78_0
                       try clear hcz78_1
                       try clear hcz78_2
                       try clear hcz80_0
                       try clear hcz80_1
                       try clear hcz80_2
                       try clear hcz81_0
                       try clear hcz81_1
                       try clear hcz81_2
                       try clear hcz87_0
                       try clear hcz87_1
                       try clear hcz87_2
                       try clear hcz88_0
                       try clear hcz88_1
                       try clear hcz88_2
                       try clear hfz11_0
                       try clear hfz11_1
                       try clear hfz11_2
                       try clear hfz12_0
                       try clear hfz12_1
                       try clear hfz17_0
                       try clear hfz17_1
                       try clear hfz17_2
                       try clear hfz22_0
                       try clear hfz22_1
                       try clear hfz22_2
                       try clear hfz24_0
                       try clear hfz24_1
                       try clear hfz26_0
                       try clear hfz26_1
                       try clear hfz26_2
                       try clear hfz28_0
                       try clear hfz28_1
                       try clear hfz29_0
                       try clear hfz29_1
                       try clear hfz29_2
                       try clear hfz31_0
                       try clear hfz31_1
                       try clear hfz31_2
                       try clear hfz33_0
                       try clear hfz33_1
                       try clear hfz34_0
                       try clear hfz34_1
                       try clear hfz34_2
                       try clear hfz36_0
                       try clear hfz36_1
                       try clear hfz36_2
                       try clear hfz38_0
                       try clear hfz38_1
                       try clear hfz39_0
                       try clear hfz39_1
                       try clear hfz39_2
                       try clear hfz42_0
                       try clear hfz42_1
                       try clear hfz42_2
                       try clear hfz44_0
                       try clear hfz44_1
                       try clear hfz45_0
                       try clear hfz45_1
                       try clear hfz45_2
                       try clear hfz46_0
                       try clear hfz46_1
                       try clear hfz46_2
                       try clear hfz47_0
                       try clear hfz47_1
                       try clear hfz47_2
                       try clear hfz49_0
                       try clear hfz49_1
                       try clear hfz50_0
                       try clear hfz50_1
                       try clear hfz50_2
                       try clear hfz51_0
                       try clear hfz51_1
                       try clear hfz51_2
                       try clear hfz52_0
                       try clear hfz52_1
                       try clear hfz52_2
                       try clear hfz54_0
                       try clear hfz54_1
                       try clear hfz55_0
                       try clear hfz55_1
                       try clear hfz55_2
                       try clear hfz56_0
                       try clear hfz56_1
                       try clear hfz56_2
                       try clear hfz57_0
                       try clear hfz57_1
                       try clear hfz57_2
                       try clear hfz64_0
                       try clear hfz64_1
                       try clear hfz65_0
                       try clear hfz65_1
                       try clear hfz65_2
                       try clear hfz66_0
                       try clear hfz66_1
                       try clear hfz66_2
                       try clear hfz78_0
                       try clear hfz78_1
                       try clear hfz78_2
                       try clear hfz80_0
                       try clear hfz80_1
                       try clear hfz80_2
                       try clear hfz81_0
                       try clear hfz81_1
                       try clear hfz81_2
                       try clear hfz87_0
                       try clear hfz87_1
                       try clear hfz87_2
                       try clear hfz88_0
                       try clear hfz88_1
                       try clear hfz88_2
                       try clear hx613_0
                       try clear hx615_0
                       try clear hx615_1
                       try clear hx615_2
                       try clear hx615_3
                       try clear hx616_0
                       try clear hx616_1
                       try clear hx616_2
                       try clear hx616_3
                       try clear hx618_0
                       try clear hx619_0
                       try clear hx620_0
                       try clear p2
                       try clear p6
                       try clear p61
                       try clear p613
                       try clear p615
                       try clear p616
                       try clear p618
                       try clear p619
                       try clear p62
                       try clear p620
                       try clear p64
                       try clear q2
                       try clear q3
                       try clear q6
                       try clear q61
                       try clear q613
                       try clear q615
                       try clear q616
                       try clear q618
                       try clear q619
                       try clear q62
                       try clear q620
                       obtain ⟨x155_5, rfl, HA, HK5, HO_611002, BK602, BK603, BK610, HB⟩ := hrel
                       cases gk with
                       | zero => exact absurd HA.out (by simp [imageeditorlaw24_WandCloses.l1])
                       | succ k5 =>
                        have H := HA.out
                        clear HA
                        simp only [imageeditorlaw24_WandCloses.l1] at H
                        by_cases c92 : x155_5 < 9
                        ·rw [if_pos c92] at H
                         have c92b0 : decide (x155_5 < 9) = true := decide_eq_true c92
                         clear c92
                         by_cases c93 : (wrap64 ((wrap64 ((Int.tmod x103_2 a0_0) + (Int.tmod x155_5 3))) - 1)) ≥ 0
                         ·rw [if_pos c93] at H
                          have c93b0 : decide (0 ≤ (wrap64 ((wrap64 ((Int.tmod x103_2 a0_0) + (Int.tmod x155_5 3))) - 1))) = true := decide_eq_true c93
                          clear c93
                          by_cases c94 : (wrap64 ((wrap64 ((wrap64 (Int.tdiv x103_2 a0_0)) + (wrap64 (Int.tdiv x155_5 3)))) - 1)) ≥ 0
                          ·rw [if_pos c94] at H
                           have c94b0 : decide (0 ≤ (wrap64 ((wrap64 ((wrap64 (Int.tdiv x103_2 a0_0)) + (wrap64 (Int.tdiv x155_5 3)))) - 1))) = true := decide_eq_true c94
                           clear c94
                           by_cases c95 : (wrap64 ((wrap64 ((Int.tmod x103_2 a0_0) + (Int.tmod x155_5 3))) - 1)) < a0_0
                           ·rw [if_pos c95] at H
                            have c95b0 : decide ((wrap64 ((wrap64 ((Int.tmod x103_2 a0_0) + (Int.tmod x155_5 3))) - 1)) < a0_0) = true := decide_eq_true c95
                            clear c95
                            by_cases c96 : (wrap64 ((wrap64 ((wrap64 (Int.tdiv x103_2 a0_0)) + (wrap64 (Int.tdiv x155_5 3)))) - 1)) < a0_1
                            ·rw [if_pos c96] at H
                             have c96b0 : decide ((wrap64 ((wrap64 ((wrap64 (Int.tdiv x103_2 a0_0)) + (wrap64 (Int.tdiv x155_5 3)))) - 1)) < a0_1) = true := decide_eq_true c96
                             clear c96
                             by_cases c97 : a3 = true
                             ·subst c97
                              have H1 : (if 0 ≤ (wrap64 ((wrap64 ((wrap64 ((wrap64 ((wrap64 (Int.tdiv x103_2 a0_0)) + (wrap64 (Int.tdiv x155_5 3)))) - 1)) * a0_0)) + (wrap64 ((wrap64 ((Int.tmod x103_2 a0_0) + (Int.tmod x155_5 3))) - 1)))) then (if (wrap64 ((wrap64 ((wrap64 ((wrap64 ((wrap64 (Int.tdiv x103_2 a0_0)) + (wrap64 (Int.tdiv x155_5 3)))) - 1)) * a0_0)) + (wrap64 ((wrap64 ((Int.tmod x103_2 a0_0) + (Int.tmod x155_5 3))) - 1)))) < (t606.length : Int) then (if (rd t606 (wrap64 ((wrap64 ((wrap64 ((wrap64 ((wrap64 (Int.tdiv x103_2 a0_0)) + (wrap64 (Int.tdiv x155_5 3)))) - 1)) * a0_0)) + (wrap64 ((wrap64 ((Int.tmod x103_2 a0_0) + (Int.tmod x155_5 3))) - 1))))) = 0 then (imageeditorlaw24_WandCloses.l1 k5 a2 true ji60 (Int.tmod x103_2 a0_0) (wrap64 (Int.tdiv x103_2 a0_0)) (t606.length : Int) x103_2 (wrap64 (x155_5 + 1)) a0_0 a0_1 l0_2 t604 t605 t606) else (some false)) else (none)) else (none)) = some r := by rw [if_pos rfl] at H; exact H
                              clear H
                              have H := H1
                              clear H1
                              obtain ⟨ji98, hji98⟩ : ∃ j_ : Int, (wrap64 ((wrap64 ((wrap64 ((wrap64 ((wrap64 (Int.tdiv x103_2 a0_0)) + (wrap64 (Int.tdiv x155_5 3)))) - 1)) * a0_0)) + (wrap64 ((wrap64 ((Int.tmod x103_2 a0_0) + (Int.tmod x155_5 3))) - 1)))) = j_ := ⟨_, rfl⟩
                              replace H : (if 0 ≤ (ji98) then (if (ji98) < (t606.length : Int) then (if (rd t606 (ji98)) = 0 then (imageeditorlaw24_WandCloses.l1 k5 a2 true ji60 (Int.tmod x103_2 a0_0) (wrap64 (Int.tdiv x103_2 a0_0)) (t606.length : Int) x103_2 (wrap64 (x155_5 + 1)) a0_0 a0_1 l0_2 t604 t605 t606) else (some false)) else (none)) else (none)) = some r := by first | (rw [hji98] at H; exact H) | (simp only [hji98] at H ⊢; exact H)
                              have hji98w : (IntKind.i64.wrap ((wrap64 ((wrap64 ((wrap64 ((wrap64 (Int.tdiv x103_2 a0_0)) + (wrap64 (Int.tdiv x155_5 3)))) - 1)) * a0_0)) + (wrap64 ((wrap64 ((Int.tmod x103_2 a0_0) + (Int.tmod x155_5 3))) - 1)))) = ji98 := (i64_w _).trans hji98
                              by_cases c99 : 0 ≤ (ji98)
                              ·rw [if_pos c99] at H
                               have c99b0 : decide (0 ≤ (ji98)) = true := decide_eq_true c99
                               clear c99
                               by_cases c100 : (ji98) < (t606.length : Int)
                               ·rw [if_pos c100] at H
                                have c100b0 : decide ((ji98) < (t606.length : Int)) = true := decide_eq_true c100
                                clear c100
                                by_cases c101 : (rd t606 (ji98)) = 0
                                ·rw [if_pos c101] at H
                                 have c101b0 : ((rd t606 (ji98)) == 0) = true := beq_iff_eq.mpr c101
                                 have c101b1 : ((rd t606 (ji98)) != 0) = false := bne_eq_false_iff_eq.mpr c101
                                 clear c101
                                 as_aux_lemma =>
                                  have H' := Aside0.mk H
                                  clear H
                                  obtain ⟨hcz102_0, hcz102_1, hcz102_2, hfz102_0, hfz102_1, hfz102_2⟩ := zq3 BK602
                                  obtain ⟨hcz103_0, hcz103_1, hcz103_2, hfz103_0, hfz103_1, hfz103_2⟩ := zq3 BK610
                                  have p621 : 0 ≤ ((ji98) : Int) := of_decide_eq_true (by first | (with_reducible assumption) | assumption)
                                  have q621 : (ji98) < (t606.length : Int) := of_decide_eq_true (by first | (with_reducible assumption) | assumption)
                                  obtain ⟨ad621, e621, hx621_0⟩ := Kd.at_int (Kd.R_reads' HO_611002.out).2.2 (ji98) p621 q621
                                  obtain rfl : ad613 = ad621 := (by injection e621)
                                  replace p621 := eq_true p621
                                  replace q621 := eq_true q621
                                  go_wp2
                                  first | go_roundg k5 | ((try subst hji98); (try subst hji60); go_roundg k5)
                                  case measure => have := HJ6.out; have := HK2.out; have := HJ72.out; have := HJ82.out; have := HK5.out; omega
                                  case rel => first | (exact ⟨(wrap64 (x155_5 + 1)), (by first | rfl | (simp; done) | (simp [*]; done)), H', ⟨by have := HJ6.out; have := HK2.out; have := HJ72.out; have := HJ82.out; have := HK5.out; omega⟩, ⟨by exact zr0 HO_611002⟩, ⟨by exact zk0 BK602⟩, ⟨by exact zk0 BK603⟩, ⟨by exact zk0 BK610⟩, ⟨by exact zb0 HB⟩⟩) | (exact ⟨(wrap64 (x155_5 + 1)), (by first | rfl | (simp; done) | (simp [*]; done)), H', ⟨by have := HJ6.out; have := HK2.out; have := HJ72.out; have := HJ82.out; have := HK5.out; omega⟩, ⟨by exact zr0 HO_611002⟩, ⟨by exact zk0 BK602⟩, ⟨by exact zk0 BK603⟩, ⟨by exact zk0 BK610⟩, ⟨by exact zb0 HB⟩⟩)
                                ·rw [if_neg c101] at H
                                 have c101b0 : ((rd t606 (ji98)) == 0) = false := beq_eq_false_iff_ne.mpr c101
                                 have c101b1 : ((rd t606 (ji98)) != 0) = true := bne_iff_ne.mpr c101
                                 as_aux_lemma =>
                                  exact absurd HT.out (by rw [← Option.some.inj H]; decide)
                               ·rw [if_neg c100] at H
                                exact absurd H (by simp)
                              ·rw [if_neg c99] at H
                               exact absurd H (by simp)
                             ·replace c97 := Bool.eq_false_iff.mpr c97
                              subst c97
                              have H1 : (if (wrap64 ((wrap64 ((Int.tmod x103_2 a0_0) + (Int.tmod x155_5 3))) - 1)) = (Int.tmod x103_2 a0_0) then (if 0 ≤ (wrap64 ((wrap64 ((wrap64 ((wrap64 ((wrap64 (Int.tdiv x103_2 a0_0)) + (wrap64 (Int.tdiv x155_5 3)))) - 1)) * a0_0)) + (wrap64 ((wrap64 ((Int.tmod x103_2 a0_0) + (Int.tmod x155_5 3))) - 1)))) then (if (wrap64 ((wrap64 ((wrap64 ((wrap64 ((wrap64 (Int.tdiv x103_2 a0_0)) + (wrap64 (Int.tdiv x155_5 3)))) - 1)) * a0_0)) + (wrap64 ((wrap64 ((Int.tmod x103_2 a0_0) + (Int.tmod x155_5 3))) - 1)))) < (t606.length : Int) then (if (rd t606 (wrap64 ((wrap64 ((wrap64 ((wrap64 ((wrap64 (Int.tdiv x103_2 a0_0)) + (wrap64 (Int.tdiv x155_5 3)))) - 1)) * a0_0)) + (wrap64 ((wrap64 ((Int.tmod x103_2 a0_0) + (Int.tmod x155_5 3))) - 1))))) = 0 then (imageeditorlaw24_WandCloses.l1 k5 a2 false ji60 (Int.tmod x103_2 a0_0) (wrap64 (Int.tdiv x103_2 a0_0)) (t606.length : Int) x103_2 (wrap64 (x155_5 + 1)) a0_0 a0_1 l0_2 t604 t605 t606) else (some false)) else (none)) else (none)) else (if (wrap64 ((wrap64 ((wrap64 (Int.tdiv x103_2 a0_0)) + (wrap64 (Int.tdiv x155_5 3)))) - 1)) = (wrap64 (Int.tdiv x103_2 a0_0)) then (if 0 ≤ (wrap64 ((wrap64 ((wrap64 ((wrap64 ((wrap64 (Int.tdiv x103_2 a0_0)) + (wrap64 (Int.tdiv x155_5 3)))) - 1)) * a0_0)) + (wrap64 ((wrap64 ((Int.tmod x103_2 a0_0) + (Int.tmod x155_5 3))) - 1)))) then (if (wrap64 ((wrap64 ((wrap64 ((wrap64 ((wrap64 (Int.tdiv x103_2 a0_0)) + (wrap64 (Int.tdiv x155_5 3)))) - 1)) * a0_0)) + (wrap64 ((wrap64 ((Int.tmod x103_2 a0_0) + (Int.tmod x155_5 3))) - 1)))) < (t606.length : Int) then (if (rd t606 (wrap64 ((wrap64 ((wrap64 ((wrap64 ((wrap64 (Int.tdiv x103_2 a0_0)) + (wrap64 (Int.tdiv x155_5 3)))) - 1)) * a0_0)) + (wrap64 ((wrap64 ((Int.tmod x103_2 a0_0) + (Int.tmod x155_5 3))) - 1))))) = 0 then (imageeditorlaw24_WandCloses.l1 k5 a2 false ji60 (Int.tmod x103_2 a0_0) (wrap64 (Int.tdiv x103_2 a0_0)) (t606.length : Int) x103_2 (wrap64 (x155_5 + 1)) a0_0 a0_1 l0_2 t604 t605 t606) else (some false)) else (none)) else (none)) else (imageeditorlaw24_WandCloses.l1 k5 a2 false ji60 (Int.tmod x103_2 a0_0) (wrap64 (Int.tdiv x103_2 a0_0)) (t606.length : Int) x103_2 (wrap64 (x155_5 + 1)) a0_0 a0_1 l0_2 t604 t605 t606))) = some r := by rw [if_neg (show ¬ (false = true) by decide)] at H; exact H
                              clear H
                              have H := H1
                              clear H1
                              by_cases c104 : (wrap64 ((wrap64 ((Int.tmod x103_2 a0_0) + (Int.tmod x155_5 3))) - 1)) = (Int.tmod x103_2 a0_0)
                              ·rw [if_pos c104] at H
                               have c104b0 : ((wrap64 ((wrap64 ((Int.tmod x103_2 a0_0) + (Int.tmod x155_5 3))) - 1)) == (Int.tmod x103_2 a0_0)) = true := beq_iff_eq.mpr c104
                               have c104b1 : ((wrap64 ((wrap64 ((Int.tmod x103_2 a0_0) + (Int.tmod x155_5 3))) - 1)) != (Int.tmod x103_2 a0_0)) = false := bne_eq_false_iff_eq.mpr c104
                               clear c104
                               obtain ⟨ji105, hji105⟩ : ∃ j_ : Int, (wrap64 ((wrap64 ((wrap64 ((wrap64 ((wrap64 (Int.tdiv x103_2 a0_0)) + (wrap64 (Int.tdiv x155_5 3)))) - 1)) * a0_0)) + (wrap64 ((wrap64 ((Int.tmod x103_2 a0_0) + (Int.tmod x155_5 3))) - 1)))) = j_ := ⟨_, rfl⟩
                               replace H : (if 0 ≤ (ji105) then (if (ji105) < (t606.length : Int) then (if (rd t606 (ji105)) = 0 then (imageeditorlaw24_WandCloses.l1 k5 a2 false ji60 (Int.tmod x103_2 a0_0) (wrap64 (Int.tdiv x103_2 a0_0)) (t606.length : Int) x103_2 (wrap64 (x155_5 + 1)) a0_0 a0_1 l0_2 t604 t605 t606) else (some false)) else (none)) else (none)) = some r := by first | (rw [hji105] at H; exact H) | (simp only [hji105] at H ⊢; exact H)
                               have hji105w : (IntKind.i64.wrap ((wrap64 ((wrap64 ((wrap64 ((wrap64 (Int.tdiv x103_2 a0_0)) + (wrap64 (Int.tdiv x155_5 3)))) - 1)) * a0_0)) + (wrap64 ((wrap64 ((Int.tmod x103_2 a0_0) + (Int.tmod x155_5 3))) - 1)))) = ji105 := (i64_w _).trans hji105
                               by_cases c106 : 0 ≤ (ji105)
                               ·rw [if_pos c106] at H
                                have c106b0 : decide (0 ≤ (ji105)) = true := decide_eq_true c106
                                clear c106
                                by_cases c107 : (ji105) < (t606.length : Int)
                                ·rw [if_pos c107] at H
                                 have c107b0 : decide ((ji105) < (t606.length : Int)) = true := decide_eq_true c107
                                 clear c107
                                 by_cases c108 : (rd t606 (ji105)) = 0
                                 ·rw [if_pos c108] at H
                                  have c108b0 : ((rd t606 (ji105)) == 0) = true := beq_iff_eq.mpr c108
                                  have c108b1 : ((rd t606 (ji105)) != 0) = false := bne_eq_false_iff_eq.mpr c108
                                  clear c108
                                  as_aux_lemma =>
                                   have H' := Aside0.mk H
                                   clear H
                                   obtain ⟨hcz109_0, hcz109_1, hcz109_2, hfz109_0, hfz109_1, hfz109_2⟩ := zq3 BK602
                                   obtain ⟨hcz110_0, hcz110_1, hcz110_2, hfz110_0, hfz110_1, hfz110_2⟩ := zq3 BK610
                                   have p622 : 0 ≤ ((ji105) : Int) := of_decide_eq_true (by first | (with_reducible assumption) | assumption)
                                   have q622 : (ji105) < (t606.length : Int) := of_decide_eq_true (by first | (with_reducible assumption) | assumption)
                                   obtain ⟨ad622, e622, hx622_0⟩ := Kd.at_int (Kd.R_reads' HO_611002.out).2.2 (ji105) p622 q622
                                   obtain rfl : ad613 = ad622 := (by injection e622)
                                   replace p622 := eq_true p622
                                   replace q622 := eq_true q622
                                   go_wp2
                                   first | go_roundg k5 | ((try subst hji105); (try subst hji60); go_roundg k5)
                                   case measure => have := HJ6.out; have := HK2.out; have := HJ72.out; have := HJ82.out; have := HK5.out; omega
                                   case rel => first | (exact ⟨(wrap64 (x155_5 + 1)), (by first | rfl | (simp; done) | (simp [*]; done)), H', ⟨by have := HJ6.out; have := HK2.out; have := HJ72.out; have := HJ82.out; have := HK5.out; omega⟩, ⟨by exact zr0 HO_611002⟩, ⟨by exact zk0 BK602⟩, ⟨by exact zk0 BK603⟩, ⟨by exact zk0 BK610⟩, ⟨by exact zb0 HB⟩⟩) | (exact ⟨(wrap64 (x155_5 + 1)), (by first | rfl | (simp; done) | (simp [*]; done)), H', ⟨by have := HJ6.out; have := HK2.out; have := HJ72.out; have := HJ82.out; have := HK5.out; omega⟩, ⟨by exact zr0 HO_611002⟩, ⟨by exact zk0 BK602⟩, ⟨by exact zk0 BK603⟩, ⟨by exact zk0 BK610⟩, ⟨by exact zb0 HB⟩⟩)
                                 ·rw [if_neg c108] at H
                                  have c108b0 : ((rd t606 (ji105)) == 0) = false := beq_eq_false_iff_ne.mpr c108
                                  have c108b1 : ((rd t606 (ji105)) != 0) = true := bne_iff_ne.mpr c108
                                  as_aux_lemma =>
                                   exact absurd HT.out (by rw [← Option.some.inj H]; decide)
                                ·rw [if_neg c107] at H
                                 exact absurd H (by simp)
                               ·rw [if_neg c106] at H
                                exact absurd H (by simp)
                              ·rw [if_neg c104] at H
                               have c104b0 : ((wrap64 ((wrap64 ((Int.tmod x103_2 a0_0) + (Int.tmod x155_5 3))) - 1)) == (Int.tmod x103_2 a0_0)) = false := beq_eq_false_iff_ne.mpr c104
                               have c104b1 : ((wrap64 ((wrap64 ((Int.tmod x103_2 a0_0) + (Int.tmod x155_5 3))) - 1)) != (Int.tmod x103_2 a0_0)) = true := bne_iff_ne.mpr c104
                               by_cases c111 : (wrap64 ((wrap64 ((wrap64 (Int.tdiv x103_2 a0_0)) + (wrap64 (Int.tdiv x155_5 3)))) - 1)) = (wrap64 (Int.tdiv x103_2 a0_0))
                               ·rw [if_pos c111] at H
                                have c111b0 : ((wrap64 ((wrap64 ((wrap64 (Int.tdiv x103_2 a0_0)) + (wrap64 (Int.tdiv x155_5 3)))) - 1)) == (wrap64 (Int.tdiv x103_2 a0_0))) = true := beq_iff_eq.mpr c111
                                have c111b1 : ((wrap64 ((wrap64 ((wrap64 (Int.tdiv x103_2 a0_0)) + (wrap64 (Int.tdiv x155_5 3)))) - 1)) != (wrap64 (Int.tdiv x103_2 a0_0))) = false := bne_eq_false_iff_eq.mpr c111
                                clear c111
                                obtain ⟨ji112, hji112⟩ : ∃ j_ : Int, (wrap64 ((wrap64 ((wrap64 ((wrap64 ((wrap64 (Int.tdiv x103_2 a0_0)) + (wrap64 (Int.tdiv x155_5 3)))) - 1)) * a0_0)) + (wrap64 ((wrap64 ((Int.tmod x103_2 a0_0) + (Int.tmod x155_5 3))) - 1)))) = j_ := ⟨_, rfl⟩
                                replace H : (if 0 ≤ (ji112) then (if (ji112) < (t606.length : Int) then (if (rd t606 (ji112)) = 0 then (imageeditorlaw24_WandCloses.l1 k5 a2 false ji60 (Int.tmod x103_2 a0_0) (wrap64 (Int.tdiv x103_2 a0_0)) (t606.length : Int) x103_2 (wrap64 (x155_5 + 1)) a0_0 a0_1 l0_2 t604 t605 t606) else (some false)) else (none)) else (none)) = some r := by first | (rw [hji112] at H; exact H) | (simp only [hji112] at H ⊢; exact H)
                                have hji112w : (IntKind.i64.wrap ((wrap64 ((wrap64 ((wrap64 ((wrap64 (Int.tdiv x103_2 a0_0)) + (wrap64 (Int.tdiv x155_5 3)))) - 1)) * a0_0)) + (wrap64 ((wrap64 ((Int.tmod x103_2 a0_0) + (Int.tmod x155_5 3))) - 1)))) = ji112 := (i64_w _).trans hji112
                                by_cases c113 : 0 ≤ (ji112)
                                ·rw [if_pos c113] at H
                                 have c113b0 : decide (0 ≤ (ji112)) = true := decide_eq_true c113
                                 clear c113
                                 by_cases c114 : (ji112) < (t606.length : Int)
                                 ·rw [if_pos c114] at H
                                  have c114b0 : decide ((ji112) < (t606.length : Int)) = true := decide_eq_true c114
                                  clear c114
                                  by_cases c115 : (rd t606 (ji112)) = 0
                                  ·rw [if_pos c115] at H
                                   have c115b0 : ((rd t606 (ji112)) == 0) = true := beq_iff_eq.mpr c115
                                   have c115b1 : ((rd t606 (ji112)) != 0) = false := bne_eq_false_iff_eq.mpr c115
                                   clear c115
                                   as_aux_lemma =>
                                    have H' := Aside0.mk H
                                    clear H
                                    obtain ⟨hcz116_0, hcz116_1, hcz116_2, hfz116_0, hfz116_1, hfz116_2⟩ := zq3 BK602
                                    obtain ⟨hcz117_0, hcz117_1, hcz117_2, hfz117_0, hfz117_1, hfz117_2⟩ := zq3 BK610
                                    have p623 : 0 ≤ ((ji112) : Int) := of_decide_eq_true (by first | (with_reducible assumption) | assumption)
                                    have q623 : (ji112) < (t606.length : Int) := of_decide_eq_true (by first | (with_reducible assumption) | assumption)
                                    obtain ⟨ad623, e623, hx623_0⟩ := Kd.at_int (Kd.R_reads' HO_611002.out).2.2 (ji112) p623 q623
                                    obtain rfl : ad613 = ad623 := (by injection e623)
                                    replace p623 := eq_true p623
                                    replace q623 := eq_true q623
                                    go_wp2
                                    first | go_roundg k5 | ((try subst hji112); (try subst hji60); go_roundg k5)
                                    case measure => have := HJ6.out; have := HK2.out; have := HJ72.out; have := HJ82.out; have := HK5.out; omega
                                    case rel => first | (exact ⟨(wrap64 (x155_5 + 1)), (by first | rfl | (simp; done) | (simp [*]; done)), H', ⟨by have := HJ6.out; have := HK2.out; have := HJ72.out; have := HJ82.out; have := HK5.out; omega⟩, ⟨by exact zr0 HO_611002⟩, ⟨by exact zk0 BK602⟩, ⟨by exact zk0 BK603⟩, ⟨by exact zk0 BK610⟩, ⟨by exact zb0 HB⟩⟩) | (exact ⟨(wrap64 (x155_5 + 1)), (by first | rfl | (simp; done) | (simp [*]; done)), H', ⟨by have := HJ6.out; have := HK2.out; have := HJ72.out; have := HJ82.out; have := HK5.out; omega⟩, ⟨by exact zr0 HO_611002⟩, ⟨by exact zk0 BK602⟩, ⟨by exact zk0 BK603⟩, ⟨by exact zk0 BK610⟩, ⟨by exact zb0 HB⟩⟩)
                                  ·rw [if_neg c115] at H
                                   have c115b0 : ((rd t606 (ji112)) == 0) = false := beq_eq_false_iff_ne.mpr c115
                                   have c115b1 : ((rd t606 (ji112)) != 0) = true := bne_iff_ne.mpr c115
                                   as_aux_lemma =>
                                    exact absurd HT.out (by rw [← Option.some.inj H]; decide)
                                 ·rw [if_neg c114] at H
                                  exact absurd H (by simp)
                                ·rw [if_neg c113] at H
                                 exact absurd H (by simp)
                               ·rw [if_neg c111] at H
                                have c111b0 : ((wrap64 ((wrap64 ((wrap64 (Int.tdiv x103_2 a0_0)) + (wrap64 (Int.tdiv x155_5 3)))) - 1)) == (wrap64 (Int.tdiv x103_2 a0_0))) = false := beq_eq_false_iff_ne.mpr c111
                                have c111b1 : ((wrap64 ((wrap64 ((wrap64 (Int.tdiv x103_2 a0_0)) + (wrap64 (Int.tdiv x155_5 3)))) - 1)) != (wrap64 (Int.tdiv x103_2 a0_0))) = true := bne_iff_ne.mpr c111
                                as_aux_lemma =>
                                 have H' := Aside0.mk H
                                 clear H
                                 obtain ⟨hcz118_0, hcz118_1, hcz118_2, hfz118_0, hfz118_1, hfz118_2⟩ := zq3 BK602
                                 go_wp2
                                 first | go_roundg k5 | ((try subst hji60); go_roundg k5)
                                 case measure => have := HJ6.out; have := HK2.out; have := HJ72.out; have := HJ82.out; have := HK5.out; omega
                                 case rel => first | (exact ⟨(wrap64 (x155_5 + 1)), (by first | rfl | (simp; done) | (simp [*]; done)), H', ⟨by have := HJ6.out; have := HK2.out; have := HJ72.out; have := HJ82.out; have := HK5.out; omega⟩, ⟨by exact zr0 HO_611002⟩, ⟨by exact zk0 BK602⟩, ⟨by exact zk0 BK603⟩, ⟨by exact zk0 BK610⟩, ⟨by exact zb0 HB⟩⟩) | (exact ⟨(wrap64 (x155_5 + 1)), (by first | rfl | (simp; done) | (simp [*]; done)), H', ⟨by have := HJ6.out; have := HK2.out; have := HJ72.out; have := HJ82.out; have := HK5.out; omega⟩, ⟨by exact zr0 HO_611002⟩, ⟨by exact zk0 BK602⟩, ⟨by exact zk0 BK603⟩, ⟨by exact zk0 BK610⟩, ⟨by exact zb0 HB⟩⟩)
                            ·rw [if_neg c96] at H
                             have c96b0 : decide ((wrap64 ((wrap64 ((wrap64 (Int.tdiv x103_2 a0_0)) + (wrap64 (Int.tdiv x155_5 3)))) - 1)) < a0_1) = false := decide_eq_false c96
                             clear c96
                             as_aux_lemma =>
                              have H' := Aside0.mk H
                              clear H
                              obtain ⟨hcz119_0, hcz119_1, hcz119_2, hfz119_0, hfz119_1, hfz119_2⟩ := zq3 BK602
                              go_wp2
                              first | go_roundg k5 | ((try subst hji60); go_roundg k5)
                              case measure => have := HJ6.out; have := HK2.out; have := HJ72.out; have := HJ82.out; have := HK5.out; omega
                              case rel => first | (exact ⟨(wrap64 (x155_5 + 1)), (by first | rfl | (simp; done) | (simp [*]; done)), H', ⟨by have := HJ6.out; have := HK2.out; have := HJ72.out; have := HJ82.out; have := HK5.out; omega⟩, ⟨by exact zr0 HO_611002⟩, ⟨by exact zk0 BK602⟩, ⟨by exact zk0 BK603⟩, ⟨by exact zk0 BK610⟩, ⟨by exact zb0 HB⟩⟩) | (exact ⟨(wrap64 (x155_5 + 1)), (by first | rfl | (simp; done) | (simp [*]; done)), H', ⟨by have := HJ6.out; have := HK2.out; have := HJ72.out; have := HJ82.out; have := HK5.out; omega⟩, ⟨by exact zr0 HO_611002⟩, ⟨by exact zk0 BK602⟩, ⟨by exact zk0 BK603⟩, ⟨by exact zk0 BK610⟩, ⟨by exact zb0 HB⟩⟩)
                           ·rw [if_neg c95] at H
                            have c95b0 : decide ((wrap64 ((wrap64 ((Int.tmod x103_2 a0_0) + (Int.tmod x155_5 3))) - 1)) < a0_0) = false := decide_eq_false c95
                            clear c95
                            as_aux_lemma =>
                             have H' := Aside0.mk H
                             clear H
                             obtain ⟨hcz120_0, hcz120_1, hcz120_2, hfz120_0, hfz120_1, hfz120_2⟩ := zq3 BK602
                             go_wp2
                             first | go_roundg k5 | ((try subst hji60); go_roundg k5)
                             case measure => have := HJ6.out; have := HK2.out; have := HJ72.out; have := HJ82.out; have := HK5.out; omega
                             case rel => first | (exact ⟨(wrap64 (x155_5 + 1)), (by first | rfl | (simp; done) | (simp [*]; done)), H', ⟨by have := HJ6.out; have := HK2.out; have := HJ72.out; have := HJ82.out; have := HK5.out; omega⟩, ⟨by exact zr0 HO_611002⟩, ⟨by exact zk0 BK602⟩, ⟨by exact zk0 BK603⟩, ⟨by exact zk0 BK610⟩, ⟨by exact zb0 HB⟩⟩) | (exact ⟨(wrap64 (x155_5 + 1)), (by first | rfl | (simp; done) | (simp [*]; done)), H', ⟨by have := HJ6.out; have := HK2.out; have := HJ72.out; have := HJ82.out; have := HK5.out; omega⟩, ⟨by exact zr0 HO_611002⟩, ⟨by exact zk0 BK602⟩, ⟨by exact zk0 BK603⟩, ⟨by exact zk0 BK610⟩, ⟨by exact zb0 HB⟩⟩)
                          ·rw [if_neg c94] at H
                           have c94b0 : decide (0 ≤ (wrap64 ((wrap64 ((wrap64 (Int.tdiv x103_2 a0_0)) + (wrap64 (Int.tdiv x155_5 3)))) - 1))) = false := decide_eq_false c94
                           clear c94
                           as_aux_lemma =>
                            have H' := Aside0.mk H
                            clear H
                            go_wp2
                            first | go_roundg k5 | ((try subst hji60); go_roundg k5)
                            case measure => have := HJ6.out; have := HK2.out; have := HJ72.out; have := HJ82.out; have := HK5.out; omega
                            case rel => first | (exact ⟨(wrap64 (x155_5 + 1)), (by first | rfl | (simp; done) | (simp [*]; done)), H', ⟨by have := HJ6.out; have := HK2.out; have := HJ72.out; have := HJ82.out; have := HK5.out; omega⟩, ⟨by exact zr0 HO_611002⟩, ⟨by exact zk0 BK602⟩, ⟨by exact zk0 BK603⟩, ⟨by exact zk0 BK610⟩, ⟨by exact zb0 HB⟩⟩) | (exact ⟨(wrap64 (x155_5 + 1)), (by first | rfl | (simp; done) | (simp [*]; done)), H', ⟨by have := HJ6.out; have := HK2.out; have := HJ72.out; have := HJ82.out; have := HK5.out; omega⟩, ⟨by exact zr0 HO_611002⟩, ⟨by exact zk0 BK602⟩, ⟨by exact zk0 BK603⟩, ⟨by exact zk0 BK610⟩, ⟨by exact zb0 HB⟩⟩)
                         ·rw [if_neg c93] at H
                          have c93b0 : decide (0 ≤ (wrap64 ((wrap64 ((Int.tmod x103_2 a0_0) + (Int.tmod x155_5 3))) - 1))) = false := decide_eq_false c93
                          clear c93
                          as_aux_lemma =>
                           have H' := Aside0.mk H
                           clear H
                           go_wp2
                           first | go_roundg k5 | ((try subst hji60); go_roundg k5)
                           case measure => have := HJ6.out; have := HK2.out; have := HJ72.out; have := HJ82.out; have := HK5.out; omega
                           case rel => first | (exact ⟨(wrap64 (x155_5 + 1)), (by first | rfl | (simp; done) | (simp [*]; done)), H', ⟨by have := HJ6.out; have := HK2.out; have := HJ72.out; have := HJ82.out; have := HK5.out; omega⟩, ⟨by exact zr0 HO_611002⟩, ⟨by exact zk0 BK602⟩, ⟨by exact zk0 BK603⟩, ⟨by exact zk0 BK610⟩, ⟨by exact zb0 HB⟩⟩) | (exact ⟨(wrap64 (x155_5 + 1)), (by first | rfl | (simp; done) | (simp [*]; done)), H', ⟨by have := HJ6.out; have := HK2.out; have := HJ72.out; have := HJ82.out; have := HK5.out; omega⟩, ⟨by exact zr0 HO_611002⟩, ⟨by exact zk0 BK602⟩, ⟨by exact zk0 BK603⟩, ⟨by exact zk0 BK610⟩, ⟨by exact zb0 HB⟩⟩)
                        ·rw [if_neg c92] at H
                         have c92b0 : decide (x155_5 < 9) = false := decide_eq_false c92
                         clear c92
                         as_aux_lemma =>
                          have H' := Aside0.mk H
                          clear H
                          go_wp2
                          first | go_roundg k5 | ((try subst hji60); go_roundg k5)
                          case measure => have := HJ6.out; have := HK2.out; have := HJ72.out; have := HJ82.out; have := HK5.out; omega
                          case rel => first | (exact ⟨(wrap64 (x103_2 + 1)), (by first | rfl | (simp; done) | (simp [*]; done)), H', ⟨by have := HJ6.out; have := HK2.out; have := HJ72.out; have := HJ82.out; have := HK5.out; omega⟩, ⟨by exact zr0 HO_611002⟩, ⟨by exact zk0 BK602⟩, ⟨by exact zk0 BK603⟩, ⟨by exact zk0 BK610⟩, ⟨by exact zb0 HB⟩⟩) | (exact ⟨(wrap64 (x103_2 + 1)), (by first | rfl | (simp; done) | (simp [*]; done)), H', ⟨by have := HJ6.out; have := HK2.out; have := HJ72.out; have := HJ82.out; have := HK5.out; omega⟩, ⟨by exact zr0 HO_611002⟩, ⟨by exact zk0 BK602⟩, ⟨by exact zk0 BK603⟩, ⟨by exact zk0 BK610⟩, ⟨by exact zb0 HB⟩⟩)
              ·rw [if_neg c71] at H
               exact absurd H (by simp)
             ·rw [if_neg c70] at H
              exact absurd H (by simp)
            ·rw [if_neg c69] at H
             exact absurd H (by simp)
           ·rw [if_neg c68] at H
            exact absurd H (by simp)
          ·rw [if_neg c67] at H
           have c67b0 : decide (x103_2 < (t606.length : Int)) = false := decide_eq_false c67
           clear c67
           replace H := Option.bind_eq_some_iff.mp H
           obtain ⟨t614, A1210, H⟩ := H
           replace H : (some t614) = some r := H
           have A121 := Aside0.mk A1210
           clear A1210
           as_aux_lemma =>
            obtain rfl := Option.some.inj H
            (try clear HO_611002)
            (try clear BK602)
            (try clear BK603)
            (try clear BK610)
            go_wp2_with (first | ((with_reducible refine gate_callee (f := 12) rfl ?_); refine goesL_ (some 214) rfl rfl Try.func12 (by kernel_rfl) rfl #[] rfl (by (try simp only [List.map_toArray, List.map_cons, List.map_nil]); first | done | rfl | (simp only [List.length_drop, List.length_take]; rfl)) ?_; (with_reducible refine (imageeditorlaw24_awake.calls k2  t614 _ A121.out).mono ?_); rintro e w122 ⟨rfl, hb⟩; refine ⟨_, rfl, ?_⟩; replace HB := zb HB hb; (try clear hb); (try clear hb2); (try clear hk); (try clear hi)))
            go_ret
            exact ⟨by first | rfl | (simp [errW_none, errW_some] <;> rfl) | (simp only [← hji60]; first | rfl | (simp [errW_none, errW_some] <;> rfl)) | (simp [*, errW_none, errW_some] <;> rfl), by exact zb0 HB⟩
       ·rw [if_neg c63] at H
        have c63b0 : ((rd t606 (ji60)) == 65535) = false := beq_eq_false_iff_ne.mpr c63
        have c63b1 : ((rd t606 (ji60)) != 65535) = true := bne_iff_ne.mpr c63
        as_aux_lemma =>
         exact absurd HT.out (by rw [← Option.some.inj H]; decide)
      ·rw [if_neg c62] at H
       exact absurd H (by simp)
     ·rw [if_neg c61] at H
      exact absurd H (by simp)
 ·rw [if_neg c6] at H
  have c6b0 : (t609 == 0) = false := beq_eq_false_iff_ne.mpr c6
  have c6b1 : (t609 != 0) = true := bne_iff_ne.mpr c6
  by_cases c123 : (t606.length : Int) = 0
  ·rw [if_pos c123] at H
   have c123b0 : ((t606.length : Int) == 0) = true := beq_iff_eq.mpr c123
   have c123b1 : ((t606.length : Int) != 0) = false := bne_eq_false_iff_eq.mpr c123
   clear c123
   replace H := Option.bind_eq_some_iff.mp H
   obtain ⟨t611, A1240, H⟩ := H
   replace H : (some t611) = some r := H
   have A124 := Aside0.mk A1240
   clear A1240
   as_aux_lemma =>
    obtain rfl := Option.some.inj H
    go_enter Try.func5, Try.ntmps5
    go_wp2_with (first | ((with_reducible refine gate_dst (N := 4) rfl ?_); (try (refine gate_guard (by rfl) ?_; dsimp only)); refine box_event ?hg (N := 4) ?hd (cs := #[.int .i64 a0_0, .int .i64 a0_1, .slice A0_2 l0_2.length c0_2]) (t := 24) ?hr ?_; (case hd => rfl); (case hg => rfl); (case hr => first | (go_simp; done) | (go_simp; rfl)); intro gb602 hg w125 hbox hb; have GW602 := zg HB hg; have GE602 := zg HB hg; have n0_ := Aside0.mk (hbox); replace HB := zb HB hb; have BK602 := n0_; clear n0_; clear hb hbox hg) | ((with_reducible refine gate_dst (N := 5) rfl ?_); (try (refine gate_guard (by rfl) ?_; dsimp only)); refine box_event ?hg (N := 5) ?hd (cs := #[.int .i64 a1_0, .int .i64 a1_1]) (t := 26) ?hr ?_; (case hd => rfl); (case hg => rfl); (case hr => first | (go_simp; done) | (go_simp; rfl)); intro gb603 hg w126 hbox hb; have GW603 := zg HB hg; have GE603 := zg HB hg; have NB602_603 := zn BK602 hg; have NB603_602 := zn' BK602 hg; have n0_ := Aside0.mk (hbox); replace BK602 := zk BK602 hb; replace HB := zb HB hb; have BK603 := n0_; clear n0_; clear hb hbox hg; have hnb127 := NB602_603.out; have hnc127 := NB603_602.out; obtain ⟨hcz128_0, hcz128_1, hcz128_2, hfz128_0, hfz128_1, hfz128_2⟩ := zq3 BK602; obtain ⟨hcz129_0, hcz129_1, hfz129_0, hfz129_1⟩ := zq2 BK603; (try clear BK602); (try clear BK603)) | ((with_reducible refine gate_callee (f := 9) rfl ?_); refine goesL_ (some 24) rfl rfl Try.func9 (by kernel_rfl) rfl #[.agg #[.int .i64 a0_0, .int .i64 a0_1, .slice A0_2 l0_2.length c0_2], .agg #[.int .i64 a1_0, .int .i64 a1_1], .int .i64 a2, .bool a3] rfl (by (try simp only [List.map_toArray, List.map_cons, List.map_nil]); first | done | rfl | (simp only [List.length_drop, List.length_take]; rfl)) ?_; (with_reducible refine (wand_Flood.calls k a0_0 a0_1 _ _ l0_2 a1_0 a1_1 a2 a3 t604 t605 t606 t609 _ ?side1 ?side2 A5.out).mono ?_); (case side1 => repeat (first | exact (Kd.C_below HR0_2.out HB.out) | (with_reducible refine Kd.C_alloc ?_ _) | (with_reducible refine Kd.C_drewN ?_ _) | (with_reducible refine Kd.C_drew ?_))); (case side2 => exact HC0_2.out); rintro e w130 ⟨v607, rfl, ho0, hb⟩; refine ⟨_, rfl, ?_⟩; have HO608 := zl HB ho0; replace HB := zb HB hb; (try clear hb); (try clear hb2); (try clear hk); (try clear hi); (try clear ho0)) | ((with_reducible refine gate_dst (N := 9) rfl ?_); (try (refine gate_guard (by rfl) ?_; dsimp only)); refine box_event ?hg (N := 9) ?hd (cs := #[.int .i64 0, .int .i64 0, .slice none 0 0]) (t := 29) ?hr ?_; (case hd => rfl); (case hg => rfl); (case hr => first | (go_simp; done) | (go_simp; rfl)); intro gb610 hg w131 hbox hb; have GW610 := zg HB hg; have GE610 := zg HB hg; have n0_ := Aside0.mk (hbox); replace HO608 := zr HO608 hb; replace HB := zb HB hb; have BK610 := n0_; clear n0_; clear hb hbox hg; obtain ⟨hcz132_0, hcz132_1, hcz132_2, hfz132_0, hfz132_1, hfz132_2⟩ := zq3 BK610; obtain ⟨Ao133, co133, eo133⟩ := Kd.R_slice HO608.out; subst eo133) | (go_at_call 12; (with_reducible refine (imageeditorlaw24_awake.calls k  t611 _ A124.out).mono ?_); rintro e w134 ⟨rfl, hb⟩; have n0_ := Aside0.mk (Kd.R_below (by exact zro HO608 BK610 (by decide)) hb); have n1_ := Aside0.mk (blk_below (g := gb610) (o := .cells #[.int .i64 t604, .int .i64 t605, .slice Ao133 t606.length co133] 29 (0, 0)) (by exact zp BK610 rfl) hb); have n2_ := Aside0.mk (below_step (by exact zbo HB GE610) hb); clear HO608; clear BK610; clear HB; have HO608 := n0_; have BK610 := n1_; have HB := n2_; clear n0_ n1_ n2_; (try clear hb); (try clear hb2); (try clear hk); (try clear hi)))
    go_ret
    exact ⟨by first | rfl | (simp [errW_none, errW_some] <;> rfl) | (simp [*, errW_none, errW_some] <;> rfl), by exact zb0 HB⟩
  ·rw [if_neg c123] at H
   have c123b0 : ((t606.length : Int) == 0) = false := beq_eq_false_iff_ne.mpr c123
   have c123b1 : ((t606.length : Int) != 0) = true := bne_iff_ne.mpr c123
   have c123b2 : ¬ (t606 = []) := fun h_ => c123 (by rw [h_]; rfl)
   as_aux_lemma =>
    exact absurd HT.out (by rw [← Option.some.inj H]; decide)

end Go.Proofs.Ytmmncannibnklaa.G
