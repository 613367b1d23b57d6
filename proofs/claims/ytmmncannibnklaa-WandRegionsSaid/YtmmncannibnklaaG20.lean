-- Written by a program of this session (wip/gx.py over the kit's print); Lean checks it.
import Derived.Test.YtmmncannibnklaaG0
import Derived.Test.YtmmncannibnklaaG5
import Derived.Test.YtmmncannibnklaaG6
import Derived.Test.YtmmncannibnklaaG10
import Derived.Test.YtmmncannibnklaaG14
namespace Go.Proofs.Ytmmncannibnklaa.G
open Go.RowKit Go.Proofs.YtmmncannibnklaaW.PrintWords Go.Proofs.YtmmncannibnklaaW.PrintLast Go.Proofs.YtmmncannibnklaaW.PrintMore
attribute [local go_sem] max2_int min2_int max_two min_two max_three min_three max_four min_four   -- for this text's walks alone
set_option linter.unusedVariables false
set_option linter.unusedSimpArgs false

/-! ### imageeditorlaw24_WandRegions: function 6 -/
mutual
def imageeditorlaw24_WandRegions.j0 : Nat → Int → Int → Bool → Int → Int → List (S37) → Int → Int → Int → Int → Option (Bool)
 | 0, _, _, _, _, _, _, _, _, _, _ => none
 | k + 1, x3, x4, x28, x625000, x625001, x625002, x626000, x626001, x627000, x627001 => if x28 = true then ((imageeditorlaw24_awake.f k).bind fun t627 => (some t627)) else ((wand_Flood.f k x625000 x625001 x625002 x626000 x626001 0 false).bind fun bt628 => ((wand_Flood.f k x625000 x625001 x625002 x627000 x627001 0 false).bind fun bt635 => ((wand_Flood.f k x625000 x625001 x625002 x626000 x626001 x3 false).bind fun bt642 => ((wand_Flood.f k x625000 x625001 x625002 x626000 x626001 x3 true).bind fun bt649 => (if x3 ≥ 0 then (imageeditorlaw24_WandRegions.j1 k x4 bt628.2.2.2 bt635.2.2.2 bt642.2.2.2 bt649.2.2.2 x3 (decide (x3 ≤ (wrap64 (65535 - x4)))) x625000 x625001 x625002 x626000 x626001 x627000 x627001 bt628.1 bt628.2.1 bt628.2.2.1 bt635.1 bt635.2.1 bt635.2.2.1 bt642.1 bt642.2.1 bt642.2.2.1 bt649.1 bt649.2.1 bt649.2.2.1) else (imageeditorlaw24_WandRegions.j1 k x4 bt628.2.2.2 bt635.2.2.2 bt642.2.2.2 bt649.2.2.2 x3 false x625000 x625001 x625002 x626000 x626001 x627000 x627001 bt628.1 bt628.2.1 bt628.2.2.1 bt635.1 bt635.2.1 bt635.2.2.1 bt642.1 bt642.2.1 bt642.2.2.1 bt649.1 bt649.2.1 bt649.2.2.1))))))
def imageeditorlaw24_WandRegions.j1 : Nat → Int → Int → Int → Int → Int → Int → Bool → Int → Int → List (S37) → Int → Int → Int → Int → Int → Int → List Int → Int → Int → List Int → Int → Int → List Int → Int → Int → List Int → Option (Bool)
 | 0, _, _, _, _, _, _, _, _, _, _, _, _, _, _, _, _, _, _, _, _, _, _, _, _, _, _ => none
 | k + 1, x4, x12, x14, x16, x18, x19, x64, x625000, x625001, x625002, x626000, x626001, x627000, x627001, x635000, x635001, x635002, x642000, x642001, x642002, x649000, x649001, x649002, x656000, x656001, x656002 => if x64 = true then (imageeditorlaw24_WandRegions.j2 k x12 x14 x16 x18 (wrap64 (x19 + x4)) x625000 x625001 x625002 x626000 x626001 x627000 x627001 x635000 x635001 x635002 x642000 x642001 x642002 x649000 x649001 x649002 x656000 x656001 x656002) else (imageeditorlaw24_WandRegions.j2 k x12 x14 x16 x18 x19 x625000 x625001 x625002 x626000 x626001 x627000 x627001 x635000 x635001 x635002 x642000 x642001 x642002 x649000 x649001 x649002 x656000 x656001 x656002)
def imageeditorlaw24_WandRegions.j2 : Nat → Int → Int → Int → Int → Int → Int → Int → List (S37) → Int → Int → Int → Int → Int → Int → List Int → Int → Int → List Int → Int → Int → List Int → Int → Int → List Int → Option (Bool)
 | 0, _, _, _, _, _, _, _, _, _, _, _, _, _, _, _, _, _, _, _, _, _, _, _, _ => none
 | k + 1, x12, x14, x16, x18, x19, x625000, x625001, x625002, x626000, x626001, x627000, x627001, x635000, x635001, x635002, x642000, x642001, x642002, x649000, x649001, x649002, x656000, x656001, x656002 => (wand_Flood.f k x625000 x625001 x625002 x626000 x626001 x19 false).bind fun bt656 => (if x12 = 0 then (imageeditorlaw24_WandRegions.j3 k x16 x18 bt656.2.2.2 (x14 == 0) x625000 x625001 x625002 x627000 x627001 x635000 x635001 x635002 x642000 x642001 x642002 x649000 x649001 x649002 x656000 x656001 x656002 bt656.1 bt656.2.1 bt656.2.2.1) else (imageeditorlaw24_WandRegions.j3 k x16 x18 bt656.2.2.2 false x625000 x625001 x625002 x627000 x627001 x635000 x635001 x635002 x642000 x642001 x642002 x649000 x649001 x649002 x656000 x656001 x656002 bt656.1 bt656.2.1 bt656.2.2.1))
def imageeditorlaw24_WandRegions.j3 : Nat → Int → Int → Int → Bool → Int → Int → List (S37) → Int → Int → Int → Int → List Int → Int → Int → List Int → Int → Int → List Int → Int → Int → List Int → Int → Int → List Int → Option (Bool)
 | 0, _, _, _, _, _, _, _, _, _, _, _, _, _, _, _, _, _, _, _, _, _, _, _, _ => none
 | k + 1, x16, x18, x21, x80, x625000, x625001, x625002, x627000, x627001, x635000, x635001, x635002, x642000, x642001, x642002, x649000, x649001, x649002, x656000, x656001, x656002, x663000, x663001, x663002 => if x80 = true then (if (x635002.length : Int) = (x642002.length : Int) then (if (x635002.length : Int) = (x625002.length : Int) then ((imageeditorref11_Check.f k x625000 x625001 x625002).bind fun t663 => (if t663 = 0 then (if x627000 < 0 then (imageeditorlaw24_WandRegions.j4 k x16 x18 x21 true x625000 x625001 x625002 x627000 x627001 x635000 x635001 x635002 x642000 x642001 x642002 x649000 x649001 x649002 x656000 x656001 x656002 x663000 x663001 x663002) else (if x627000 ≥ x625000 then (imageeditorlaw24_WandRegions.j4 k x16 x18 x21 true x625000 x625001 x625002 x627000 x627001 x635000 x635001 x635002 x642000 x642001 x642002 x649000 x649001 x649002 x656000 x656001 x656002 x663000 x663001 x663002) else (if x627001 < 0 then (imageeditorlaw24_WandRegions.j4 k x16 x18 x21 true x625000 x625001 x625002 x627000 x627001 x635000 x635001 x635002 x642000 x642001 x642002 x649000 x649001 x649002 x656000 x656001 x656002 x663000 x663001 x663002) else (imageeditorlaw24_WandRegions.j4 k x16 x18 x21 (decide (x627001 ≥ x625001)) x625000 x625001 x625002 x627000 x627001 x635000 x635001 x635002 x642000 x642001 x642002 x649000 x649001 x649002 x656000 x656001 x656002 x663000 x663001 x663002)))) else (imageeditorlaw24_WandRegions.j4 k x16 x18 x21 true x625000 x625001 x625002 x627000 x627001 x635000 x635001 x635002 x642000 x642001 x642002 x649000 x649001 x649002 x656000 x656001 x656002 x663000 x663001 x663002))) else (imageeditorlaw24_WandRegions.j4 k x16 x18 x21 true x625000 x625001 x625002 x627000 x627001 x635000 x635001 x635002 x642000 x642001 x642002 x649000 x649001 x649002 x656000 x656001 x656002 x663000 x663001 x663002)) else (imageeditorlaw24_WandRegions.j4 k x16 x18 x21 true x625000 x625001 x625002 x627000 x627001 x635000 x635001 x635002 x642000 x642001 x642002 x649000 x649001 x649002 x656000 x656001 x656002 x663000 x663001 x663002)) else (imageeditorlaw24_WandRegions.j5 k x16 x18 x21 x649000 x649001 x649002 x656000 x656001 x656002 x663000 x663001 x663002)
def imageeditorlaw24_WandRegions.j5 : Nat → Int → Int → Int → Int → Int → List Int → Int → Int → List Int → Int → Int → List Int → Option (Bool)
 | 0, _, _, _, _, _, _, _, _, _, _, _, _ => none
 | k + 1, x16, x18, x21, x649000, x649001, x649002, x656000, x656001, x656002, x663000, x663001, x663002 => if x16 = x18 then (imageeditorlaw24_WandRegions.j6 k (x16 != x21) x649000 x649001 x649002 x656000 x656001 x656002 x663000 x663001 x663002) else (imageeditorlaw24_WandRegions.j6 k true x649000 x649001 x649002 x656000 x656001 x656002 x663000 x663001 x663002)
def imageeditorlaw24_WandRegions.j6 : Nat → Bool → Int → Int → List Int → Int → Int → List Int → Int → Int → List Int → Option (Bool)
 | 0, _, _, _, _, _, _, _, _, _, _ => none
 | k + 1, x152, x649000, x649001, x649002, x656000, x656001, x656002, x663000, x663001, x663002 => if x152 = true then (some false) else (if (x649002.length : Int) = (x656002.length : Int) then (imageeditorlaw24_WandRegions.j7 k ((x649002.length : Int) != (x663002.length : Int)) x649000 x649001 x649002 x656000 x656001 x656002 x663000 x663001 x663002) else (imageeditorlaw24_WandRegions.j7 k true x649000 x649001 x649002 x656000 x656001 x656002 x663000 x663001 x663002))
def imageeditorlaw24_WandRegions.j7 : Nat → Bool → Int → Int → List Int → Int → Int → List Int → Int → Int → List Int → Option (Bool)
 | 0, _, _, _, _, _, _, _, _, _, _ => none
 | k + 1, x168, x649000, x649001, x649002, x656000, x656001, x656002, x663000, x663001, x663002 => if x168 = true then (some false) else (imageeditorlaw24_WandRegions.l0 k (x649002.length : Int) 0 x649000 x649001 x649002 x656000 x656001 x656002 x663000 x663001 x663002)
def imageeditorlaw24_WandRegions.l0 : Nat → Int → Int → Int → Int → List Int → Int → Int → List Int → Int → Int → List Int → Option (Bool)
 | 0, _, _, _, _, _, _, _, _, _, _, _ => none
 | k + 1, x171, x172, x649000, x649001, x649002, x656000, x656001, x656002, x663000, x663001, x663002 => if x172 < x171 then (if 0 ≤ x172 then (if x172 < (x649002.length : Int) then (if (rd x649002 x172) = 0 then (imageeditorlaw24_WandRegions.l0 k x171 (wrap64 (x172 + 1)) x649000 x649001 x649002 x656000 x656001 x656002 x663000 x663001 x663002) else (if x172 < (x656002.length : Int) then (if (rd x656002 x172) = 0 then (some false) else (if x172 < (x663002.length : Int) then (if (rd x663002 x172) = 0 then (some false) else (imageeditorlaw24_WandRegions.l0 k x171 (wrap64 (x172 + 1)) x649000 x649001 x649002 x656000 x656001 x656002 x663000 x663001 x663002)) else (none))) else (none))) else (none)) else (none)) else ((imageeditorlaw24_awake.f k).bind fun t669 => (some t669))
def imageeditorlaw24_WandRegions.j4 : Nat → Int → Int → Int → Bool → Int → Int → List (S37) → Int → Int → Int → Int → List Int → Int → Int → List Int → Int → Int → List Int → Int → Int → List Int → Int → Int → List Int → Option (Bool)
 | 0, _, _, _, _, _, _, _, _, _, _, _, _, _, _, _, _, _, _, _, _, _, _, _, _ => none
 | k + 1, x16, x18, x21, x125, x625000, x625001, x625002, x627000, x627001, x635000, x635001, x635002, x642000, x642001, x642002, x649000, x649001, x649002, x656000, x656001, x656002, x663000, x663001, x663002 => if x125 = true then (some false) else (if 0 ≤ (wrap64 ((wrap64 (x627001 * x625000)) + x627000)) then (if (wrap64 ((wrap64 (x627001 * x625000)) + x627000)) < (x635002.length : Int) then (if (rd x635002 (wrap64 ((wrap64 (x627001 * x625000)) + x627000))) = 0 then (imageeditorlaw24_WandRegions.j5 k x16 x18 x21 x649000 x649001 x649002 x656000 x656001 x656002 x663000 x663001 x663002) else ((imageeditorlaw24_same.f k x635000 x635001 x635002 x642000 x642001 x642002).bind fun t665 => (if t665 = true then (imageeditorlaw24_WandRegions.j5 k x16 x18 x21 x649000 x649001 x649002 x656000 x656001 x656002 x663000 x663001 x663002) else (some false)))) else (none)) else (none))
end
def imageeditorlaw24_WandRegions.f (k : Nat) (a0_0 : Int) (a0_1 : Int) (l0_2 : List (S37)) (a1_0 : Int) (a1_1 : Int) (a2_0 : Int) (a2_1 : Int) (a3 : Int) (a4 : Int) : Option (Bool) := if a4 < 0 then (imageeditorlaw24_WandRegions.j0 k a3 a4 true a0_0 a0_1 l0_2 a1_0 a1_1 a2_0 a2_1) else (imageeditorlaw24_WandRegions.j0 k a3 a4 (decide (a4 > 65535)) a0_0 a0_1 l0_2 a1_0 a1_1 a2_0 a2_1)
theorem imageeditorlaw24_WandRegions.mono_l : ∀ k, (∀ y0 y1 y2 y3 y4 y5 y6 y7 y8 y9, LeO (imageeditorlaw24_WandRegions.j0 k y0 y1 y2 y3 y4 y5 y6 y7 y8 y9) (imageeditorlaw24_WandRegions.j0 (k + 1) y0 y1 y2 y3 y4 y5 y6 y7 y8 y9)) ∧ (∀ y0 y1 y2 y3 y4 y5 y6 y7 y8 y9 y10 y11 y12 y13 y14 y15 y16 y17 y18 y19 y20 y21 y22 y23 y24 y25, LeO (imageeditorlaw24_WandRegions.j1 k y0 y1 y2 y3 y4 y5 y6 y7 y8 y9 y10 y11 y12 y13 y14 y15 y16 y17 y18 y19 y20 y21 y22 y23 y24 y25) (imageeditorlaw24_WandRegions.j1 (k + 1) y0 y1 y2 y3 y4 y5 y6 y7 y8 y9 y10 y11 y12 y13 y14 y15 y16 y17 y18 y19 y20 y21 y22 y23 y24 y25)) ∧ (∀ y0 y1 y2 y3 y4 y5 y6 y7 y8 y9 y10 y11 y12 y13 y14 y15 y16 y17 y18 y19 y20 y21 y22 y23, LeO (imageeditorlaw24_WandRegions.j2 k y0 y1 y2 y3 y4 y5 y6 y7 y8 y9 y10 y11 y12 y13 y14 y15 y16 y17 y18 y19 y20 y21 y22 y23) (imageeditorlaw24_WandRegions.j2 (k + 1) y0 y1 y2 y3 y4 y5 y6 y7 y8 y9 y10 y11 y12 y13 y14 y15 y16 y17 y18 y19 y20 y21 y22 y23)) ∧ (∀ y0 y1 y2 y3 y4 y5 y6 y7 y8 y9 y10 y11 y12 y13 y14 y15 y16 y17 y18 y19 y20 y21 y22 y23, LeO (imageeditorlaw24_WandRegions.j3 k y0 y1 y2 y3 y4 y5 y6 y7 y8 y9 y10 y11 y12 y13 y14 y15 y16 y17 y18 y19 y20 y21 y22 y23) (imageeditorlaw24_WandRegions.j3 (k + 1) y0 y1 y2 y3 y4 y5 y6 y7 y8 y9 y10 y11 y12 y13 y14 y15 y16 y17 y18 y19 y20 y21 y22 y23)) ∧ (∀ y0 y1 y2 y3 y4 y5 y6 y7 y8 y9 y10 y11, LeO (imageeditorlaw24_WandRegions.j5 k y0 y1 y2 y3 y4 y5 y6 y7 y8 y9 y10 y11) (imageeditorlaw24_WandRegions.j5 (k + 1) y0 y1 y2 y3 y4 y5 y6 y7 y8 y9 y10 y11)) ∧ (∀ y0 y1 y2 y3 y4 y5 y6 y7 y8 y9, LeO (imageeditorlaw24_WandRegions.j6 k y0 y1 y2 y3 y4 y5 y6 y7 y8 y9) (imageeditorlaw24_WandRegions.j6 (k + 1) y0 y1 y2 y3 y4 y5 y6 y7 y8 y9)) ∧ (∀ y0 y1 y2 y3 y4 y5 y6 y7 y8 y9, LeO (imageeditorlaw24_WandRegions.j7 k y0 y1 y2 y3 y4 y5 y6 y7 y8 y9) (imageeditorlaw24_WandRegions.j7 (k + 1) y0 y1 y2 y3 y4 y5 y6 y7 y8 y9)) ∧ (∀ y0 y1 y2 y3 y4 y5 y6 y7 y8 y9 y10, LeO (imageeditorlaw24_WandRegions.l0 k y0 y1 y2 y3 y4 y5 y6 y7 y8 y9 y10) (imageeditorlaw24_WandRegions.l0 (k + 1) y0 y1 y2 y3 y4 y5 y6 y7 y8 y9 y10)) ∧ (∀ y0 y1 y2 y3 y4 y5 y6 y7 y8 y9 y10 y11 y12 y13 y14 y15 y16 y17 y18 y19 y20 y21 y22 y23, LeO (imageeditorlaw24_WandRegions.j4 k y0 y1 y2 y3 y4 y5 y6 y7 y8 y9 y10 y11 y12 y13 y14 y15 y16 y17 y18 y19 y20 y21 y22 y23) (imageeditorlaw24_WandRegions.j4 (k + 1) y0 y1 y2 y3 y4 y5 y6 y7 y8 y9 y10 y11 y12 y13 y14 y15 y16 y17 y18 y19 y20 y21 y22 y23))
 | 0 => ⟨fun _ _ _ _ _ _ _ _ _ _ r h => by simp [imageeditorlaw24_WandRegions.j0] at h, fun _ _ _ _ _ _ _ _ _ _ _ _ _ _ _ _ _ _ _ _ _ _ _ _ _ _ r h => by simp [imageeditorlaw24_WandRegions.j1] at h, fun _ _ _ _ _ _ _ _ _ _ _ _ _ _ _ _ _ _ _ _ _ _ _ _ r h => by simp [imageeditorlaw24_WandRegions.j2] at h, fun _ _ _ _ _ _ _ _ _ _ _ _ _ _ _ _ _ _ _ _ _ _ _ _ r h => by simp [imageeditorlaw24_WandRegions.j3] at h, fun _ _ _ _ _ _ _ _ _ _ _ _ r h => by simp [imageeditorlaw24_WandRegions.j5] at h, fun _ _ _ _ _ _ _ _ _ _ r h => by simp [imageeditorlaw24_WandRegions.j6] at h, fun _ _ _ _ _ _ _ _ _ _ r h => by simp [imageeditorlaw24_WandRegions.j7] at h, fun _ _ _ _ _ _ _ _ _ _ _ r h => by simp [imageeditorlaw24_WandRegions.l0] at h, fun _ _ _ _ _ _ _ _ _ _ _ _ _ _ _ _ _ _ _ _ _ _ _ _ r h => by simp [imageeditorlaw24_WandRegions.j4] at h⟩
 | k + 1 => by
  obtain ⟨ih0, ih1, ih2, ih3, ih4, ih5, ih6, ih7, ih8⟩ := imageeditorlaw24_WandRegions.mono_l k
  refine ⟨?_, ?_, ?_, ?_, ?_, ?_, ?_, ?_, ?_⟩
  ·intro y0 y1 y2 y3 y4 y5 y6 y7 y8 y9
   unfold imageeditorlaw24_WandRegions.j0
   repeat' first
   | (with_reducible exact ih0 _ _ _ _ _ _ _ _ _ _)
   | (with_reducible exact ih1 _ _ _ _ _ _ _ _ _ _ _ _ _ _ _ _ _ _ _ _ _ _ _ _ _ _)
   | (with_reducible exact ih2 _ _ _ _ _ _ _ _ _ _ _ _ _ _ _ _ _ _ _ _ _ _ _ _)
   | (with_reducible exact ih3 _ _ _ _ _ _ _ _ _ _ _ _ _ _ _ _ _ _ _ _ _ _ _ _)
   | (with_reducible exact ih4 _ _ _ _ _ _ _ _ _ _ _ _)
   | (with_reducible exact ih5 _ _ _ _ _ _ _ _ _ _)
   | (with_reducible exact ih6 _ _ _ _ _ _ _ _ _ _)
   | (with_reducible exact ih7 _ _ _ _ _ _ _ _ _ _ _)
   | (with_reducible exact ih8 _ _ _ _ _ _ _ _ _ _ _ _ _ _ _ _ _ _ _ _ _ _ _ _)
   | (with_reducible exact imageeditorlaw24_awake.mono _)
   | (with_reducible exact imageeditorlaw24_same.mono _ _ _ _ _ _ _)
   | (with_reducible exact imageeditorref11_Check.mono _ _ _ _)
   | (with_reducible exact wand_Flood.mono _ _ _ _ _ _ _ _)
   | (with_reducible exact LeO.refl _)
   | (with_reducible exact LeO.none _)
   | (with_reducible refine LeO.ite ?_ ?_)
   | (with_reducible refine LeO.bind ?_ (fun _ => ?_))
   | exact ih0 _ _ _ _ _ _ _ _ _ _
   | exact ih1 _ _ _ _ _ _ _ _ _ _ _ _ _ _ _ _ _ _ _ _ _ _ _ _ _ _
   | exact ih2 _ _ _ _ _ _ _ _ _ _ _ _ _ _ _ _ _ _ _ _ _ _ _ _
   | exact ih3 _ _ _ _ _ _ _ _ _ _ _ _ _ _ _ _ _ _ _ _ _ _ _ _
   | exact ih4 _ _ _ _ _ _ _ _ _ _ _ _
   | exact ih5 _ _ _ _ _ _ _ _ _ _
   | exact ih6 _ _ _ _ _ _ _ _ _ _
   | exact ih7 _ _ _ _ _ _ _ _ _ _ _
   | exact ih8 _ _ _ _ _ _ _ _ _ _ _ _ _ _ _ _ _ _ _ _ _ _ _ _
   | exact imageeditorlaw24_awake.mono _
   | exact imageeditorlaw24_same.mono _ _ _ _ _ _ _
   | exact imageeditorref11_Check.mono _ _ _ _
   | exact wand_Flood.mono _ _ _ _ _ _ _ _
   | exact LeO.none _
   | refine LeO.ite ?_ ?_
   | refine LeO.bind ?_ (fun _ => ?_)
  ·intro y0 y1 y2 y3 y4 y5 y6 y7 y8 y9 y10 y11 y12 y13 y14 y15 y16 y17 y18 y19 y20 y21 y22 y23 y24 y25
   unfold imageeditorlaw24_WandRegions.j1
   repeat' first
   | (with_reducible exact ih0 _ _ _ _ _ _ _ _ _ _)
   | (with_reducible exact ih1 _ _ _ _ _ _ _ _ _ _ _ _ _ _ _ _ _ _ _ _ _ _ _ _ _ _)
   | (with_reducible exact ih2 _ _ _ _ _ _ _ _ _ _ _ _ _ _ _ _ _ _ _ _ _ _ _ _)
   | (with_reducible exact ih3 _ _ _ _ _ _ _ _ _ _ _ _ _ _ _ _ _ _ _ _ _ _ _ _)
   | (with_reducible exact ih4 _ _ _ _ _ _ _ _ _ _ _ _)
   | (with_reducible exact ih5 _ _ _ _ _ _ _ _ _ _)
   | (with_reducible exact ih6 _ _ _ _ _ _ _ _ _ _)
   | (with_reducible exact ih7 _ _ _ _ _ _ _ _ _ _ _)
   | (with_reducible exact ih8 _ _ _ _ _ _ _ _ _ _ _ _ _ _ _ _ _ _ _ _ _ _ _ _)
   | (with_reducible exact imageeditorlaw24_awake.mono _)
   | (with_reducible exact imageeditorlaw24_same.mono _ _ _ _ _ _ _)
   | (with_reducible exact imageeditorref11_Check.mono _ _ _ _)
   | (with_reducible exact wand_Flood.mono _ _ _ _ _ _ _ _)
   | (with_reducible exact LeO.refl _)
   | (with_reducible exact LeO.none _)
   | (with_reducible refine LeO.ite ?_ ?_)
   | (with_reducible refine LeO.bind ?_ (fun _ => ?_))
   | exact ih0 _ _ _ _ _ _ _ _ _ _
   | exact ih1 _ _ _ _ _ _ _ _ _ _ _ _ _ _ _ _ _ _ _ _ _ _ _ _ _ _
   | exact ih2 _ _ _ _ _ _ _ _ _ _ _ _ _ _ _ _ _ _ _ _ _ _ _ _
   | exact ih3 _ _ _ _ _ _ _ _ _ _ _ _ _ _ _ _ _ _ _ _ _ _ _ _
   | exact ih4 _ _ _ _ _ _ _ _ _ _ _ _
   | exact ih5 _ _ _ _ _ _ _ _ _ _
   | exact ih6 _ _ _ _ _ _ _ _ _ _
   | exact ih7 _ _ _ _ _ _ _ _ _ _ _
   | exact ih8 _ _ _ _ _ _ _ _ _ _ _ _ _ _ _ _ _ _ _ _ _ _ _ _
   | exact imageeditorlaw24_awake.mono _
   | exact imageeditorlaw24_same.mono _ _ _ _ _ _ _
   | exact imageeditorref11_Check.mono _ _ _ _
   | exact wand_Flood.mono _ _ _ _ _ _ _ _
   | exact LeO.none _
   | refine LeO.ite ?_ ?_
   | refine LeO.bind ?_ (fun _ => ?_)
  ·intro y0 y1 y2 y3 y4 y5 y6 y7 y8 y9 y10 y11 y12 y13 y14 y15 y16 y17 y18 y19 y20 y21 y22 y23
   unfold imageeditorlaw24_WandRegions.j2
   repeat' first
   | (with_reducible exact ih0 _ _ _ _ _ _ _ _ _ _)
   | (with_reducible exact ih1 _ _ _ _ _ _ _ _ _ _ _ _ _ _ _ _ _ _ _ _ _ _ _ _ _ _)
   | (with_reducible exact ih2 _ _ _ _ _ _ _ _ _ _ _ _ _ _ _ _ _ _ _ _ _ _ _ _)
   | (with_reducible exact ih3 _ _ _ _ _ _ _ _ _ _ _ _ _ _ _ _ _ _ _ _ _ _ _ _)
   | (with_reducible exact ih4 _ _ _ _ _ _ _ _ _ _ _ _)
   | (with_reducible exact ih5 _ _ _ _ _ _ _ _ _ _)
   | (with_reducible exact ih6 _ _ _ _ _ _ _ _ _ _)
   | (with_reducible exact ih7 _ _ _ _ _ _ _ _ _ _ _)
   | (with_reducible exact ih8 _ _ _ _ _ _ _ _ _ _ _ _ _ _ _ _ _ _ _ _ _ _ _ _)
   | (with_reducible exact imageeditorlaw24_awake.mono _)
   | (with_reducible exact imageeditorlaw24_same.mono _ _ _ _ _ _ _)
   | (with_reducible exact imageeditorref11_Check.mono _ _ _ _)
   | (with_reducible exact wand_Flood.mono _ _ _ _ _ _ _ _)
   | (with_reducible exact LeO.refl _)
   | (with_reducible exact LeO.none _)
   | (with_reducible refine LeO.ite ?_ ?_)
   | (with_reducible refine LeO.bind ?_ (fun _ => ?_))
   | exact ih0 _ _ _ _ _ _ _ _ _ _
   | exact ih1 _ _ _ _ _ _ _ _ _ _ _ _ _ _ _ _ _ _ _ _ _ _ _ _ _ _
   | exact ih2 _ _ _ _ _ _ _ _ _ _ _ _ _ _ _ _ _ _ _ _ _ _ _ _
   | exact ih3 _ _ _ _ _ _ _ _ _ _ _ _ _ _ _ _ _ _ _ _ _ _ _ _
   | exact ih4 _ _ _ _ _ _ _ _ _ _ _ _
   | exact ih5 _ _ _ _ _ _ _ _ _ _
   | exact ih6 _ _ _ _ _ _ _ _ _ _
   | exact ih7 _ _ _ _ _ _ _ _ _ _ _
   | exact ih8 _ _ _ _ _ _ _ _ _ _ _ _ _ _ _ _ _ _ _ _ _ _ _ _
   | exact imageeditorlaw24_awake.mono _
   | exact imageeditorlaw24_same.mono _ _ _ _ _ _ _
   | exact imageeditorref11_Check.mono _ _ _ _
   | exact wand_Flood.mono _ _ _ _ _ _ _ _
   | exact LeO.none _
   | refine LeO.ite ?_ ?_
   | refine LeO.bind ?_ (fun _ => ?_)
  ·intro y0 y1 y2 y3 y4 y5 y6 y7 y8 y9 y10 y11 y12 y13 y14 y15 y16 y17 y18 y19 y20 y21 y22 y23
   unfold imageeditorlaw24_WandRegions.j3
   repeat' first
   | (with_reducible exact ih0 _ _ _ _ _ _ _ _ _ _)
   | (with_reducible exact ih1 _ _ _ _ _ _ _ _ _ _ _ _ _ _ _ _ _ _ _ _ _ _ _ _ _ _)
   | (with_reducible exact ih2 _ _ _ _ _ _ _ _ _ _ _ _ _ _ _ _ _ _ _ _ _ _ _ _)
   | (with_reducible exact ih3 _ _ _ _ _ _ _ _ _ _ _ _ _ _ _ _ _ _ _ _ _ _ _ _)
   | (with_reducible exact ih4 _ _ _ _ _ _ _ _ _ _ _ _)
   | (with_reducible exact ih5 _ _ _ _ _ _ _ _ _ _)
   | (with_reducible exact ih6 _ _ _ _ _ _ _ _ _ _)
   | (with_reducible exact ih7 _ _ _ _ _ _ _ _ _ _ _)
   | (with_reducible exact ih8 _ _ _ _ _ _ _ _ _ _ _ _ _ _ _ _ _ _ _ _ _ _ _ _)
   | (with_reducible exact imageeditorlaw24_awake.mono _)
   | (with_reducible exact imageeditorlaw24_same.mono _ _ _ _ _ _ _)
   | (with_reducible exact imageeditorref11_Check.mono _ _ _ _)
   | (with_reducible exact wand_Flood.mono _ _ _ _ _ _ _ _)
   | (with_reducible exact LeO.refl _)
   | (with_reducible exact LeO.none _)
   | (with_reducible refine LeO.ite ?_ ?_)
   | (with_reducible refine LeO.bind ?_ (fun _ => ?_))
   | exact ih0 _ _ _ _ _ _ _ _ _ _
   | exact ih1 _ _ _ _ _ _ _ _ _ _ _ _ _ _ _ _ _ _ _ _ _ _ _ _ _ _
   | exact ih2 _ _ _ _ _ _ _ _ _ _ _ _ _ _ _ _ _ _ _ _ _ _ _ _
   | exact ih3 _ _ _ _ _ _ _ _ _ _ _ _ _ _ _ _ _ _ _ _ _ _ _ _
   | exact ih4 _ _ _ _ _ _ _ _ _ _ _ _
   | exact ih5 _ _ _ _ _ _ _ _ _ _
   | exact ih6 _ _ _ _ _ _ _ _ _ _
   | exact ih7 _ _ _ _ _ _ _ _ _ _ _
   | exact ih8 _ _ _ _ _ _ _ _ _ _ _ _ _ _ _ _ _ _ _ _ _ _ _ _
   | exact imageeditorlaw24_awake.mono _
   | exact imageeditorlaw24_same.mono _ _ _ _ _ _ _
   | exact imageeditorref11_Check.mono _ _ _ _
   | exact wand_Flood.mono _ _ _ _ _ _ _ _
   | exact LeO.none _
   | refine LeO.ite ?_ ?_
   | refine LeO.bind ?_ (fun _ => ?_)
  ·intro y0 y1 y2 y3 y4 y5 y6 y7 y8 y9 y10 y11
   unfold imageeditorlaw24_WandRegions.j5
   repeat' first
   | (with_reducible exact ih0 _ _ _ _ _ _ _ _ _ _)
   | (with_reducible exact ih1 _ _ _ _ _ _ _ _ _ _ _ _ _ _ _ _ _ _ _ _ _ _ _ _ _ _)
   | (with_reducible exact ih2 _ _ _ _ _ _ _ _ _ _ _ _ _ _ _ _ _ _ _ _ _ _ _ _)
   | (with_reducible exact ih3 _ _ _ _ _ _ _ _ _ _ _ _ _ _ _ _ _ _ _ _ _ _ _ _)
   | (with_reducible exact ih4 _ _ _ _ _ _ _ _ _ _ _ _)
   | (with_reducible exact ih5 _ _ _ _ _ _ _ _ _ _)
   | (with_reducible exact ih6 _ _ _ _ _ _ _ _ _ _)
   | (with_reducible exact ih7 _ _ _ _ _ _ _ _ _ _ _)
   | (with_reducible exact ih8 _ _ _ _ _ _ _ _ _ _ _ _ _ _ _ _ _ _ _ _ _ _ _ _)
   | (with_reducible exact imageeditorlaw24_awake.mono _)
   | (with_reducible exact imageeditorlaw24_same.mono _ _ _ _ _ _ _)
   | (with_reducible exact imageeditorref11_Check.mono _ _ _ _)
   | (with_reducible exact wand_Flood.mono _ _ _ _ _ _ _ _)
   | (with_reducible exact LeO.refl _)
   | (with_reducible exact LeO.none _)
   | (with_reducible refine LeO.ite ?_ ?_)
   | (with_reducible refine LeO.bind ?_ (fun _ => ?_))
   | exact ih0 _ _ _ _ _ _ _ _ _ _
   | exact ih1 _ _ _ _ _ _ _ _ _ _ _ _ _ _ _ _ _ _ _ _ _ _ _ _ _ _
   | exact ih2 _ _ _ _ _ _ _ _ _ _ _ _ _ _ _ _ _ _ _ _ _ _ _ _
   | exact ih3 _ _ _ _ _ _ _ _ _ _ _ _ _ _ _ _ _ _ _ _ _ _ _ _
   | exact ih4 _ _ _ _ _ _ _ _ _ _ _ _
   | exact ih5 _ _ _ _ _ _ _ _ _ _
   | exact ih6 _ _ _ _ _ _ _ _ _ _
   | exact ih7 _ _ _ _ _ _ _ _ _ _ _
   | exact ih8 _ _ _ _ _ _ _ _ _ _ _ _ _ _ _ _ _ _ _ _ _ _ _ _
   | exact imageeditorlaw24_awake.mono _
   | exact imageeditorlaw24_same.mono _ _ _ _ _ _ _
   | exact imageeditorref11_Check.mono _ _ _ _
   | exact wand_Flood.mono _ _ _ _ _ _ _ _
   | exact LeO.none _
   | refine LeO.ite ?_ ?_
   | refine LeO.bind ?_ (fun _ => ?_)
  ·intro y0 y1 y2 y3 y4 y5 y6 y7 y8 y9
   unfold imageeditorlaw24_WandRegions.j6
   repeat' first
   | (with_reducible exact ih0 _ _ _ _ _ _ _ _ _ _)
   | (with_reducible exact ih1 _ _ _ _ _ _ _ _ _ _ _ _ _ _ _ _ _ _ _ _ _ _ _ _ _ _)
   | (with_reducible exact ih2 _ _ _ _ _ _ _ _ _ _ _ _ _ _ _ _ _ _ _ _ _ _ _ _)
   | (with_reducible exact ih3 _ _ _ _ _ _ _ _ _ _ _ _ _ _ _ _ _ _ _ _ _ _ _ _)
   | (with_reducible exact ih4 _ _ _ _ _ _ _ _ _ _ _ _)
   | (with_reducible exact ih5 _ _ _ _ _ _ _ _ _ _)
   | (with_reducible exact ih6 _ _ _ _ _ _ _ _ _ _)
   | (with_reducible exact ih7 _ _ _ _ _ _ _ _ _ _ _)
   | (with_reducible exact ih8 _ _ _ _ _ _ _ _ _ _ _ _ _ _ _ _ _ _ _ _ _ _ _ _)
   | (with_reducible exact imageeditorlaw24_awake.mono _)
   | (with_reducible exact imageeditorlaw24_same.mono _ _ _ _ _ _ _)
   | (with_reducible exact imageeditorref11_Check.mono _ _ _ _)
   | (with_reducible exact wand_Flood.mono _ _ _ _ _ _ _ _)
   | (with_reducible exact LeO.refl _)
   | (with_reducible exact LeO.none _)
   | (with_reducible refine LeO.ite ?_ ?_)
   | (with_reducible refine LeO.bind ?_ (fun _ => ?_))
   | exact ih0 _ _ _ _ _ _ _ _ _ _
   | exact ih1 _ _ _ _ _ _ _ _ _ _ _ _ _ _ _ _ _ _ _ _ _ _ _ _ _ _
   | exact ih2 _ _ _ _ _ _ _ _ _ _ _ _ _ _ _ _ _ _ _ _ _ _ _ _
   | exact ih3 _ _ _ _ _ _ _ _ _ _ _ _ _ _ _ _ _ _ _ _ _ _ _ _
   | exact ih4 _ _ _ _ _ _ _ _ _ _ _ _
   | exact ih5 _ _ _ _ _ _ _ _ _ _
   | exact ih6 _ _ _ _ _ _ _ _ _ _
   | exact ih7 _ _ _ _ _ _ _ _ _ _ _
   | exact ih8 _ _ _ _ _ _ _ _ _ _ _ _ _ _ _ _ _ _ _ _ _ _ _ _
   | exact imageeditorlaw24_awake.mono _
   | exact imageeditorlaw24_same.mono _ _ _ _ _ _ _
   | exact imageeditorref11_Check.mono _ _ _ _
   | exact wand_Flood.mono _ _ _ _ _ _ _ _
   | exact LeO.none _
   | refine LeO.ite ?_ ?_
   | refine LeO.bind ?_ (fun _ => ?_)
  ·intro y0 y1 y2 y3 y4 y5 y6 y7 y8 y9
   unfold imageeditorlaw24_WandRegions.j7
   repeat' first
   | (with_reducible exact ih0 _ _ _ _ _ _ _ _ _ _)
   | (with_reducible exact ih1 _ _ _ _ _ _ _ _ _ _ _ _ _ _ _ _ _ _ _ _ _ _ _ _ _ _)
   | (with_reducible exact ih2 _ _ _ _ _ _ _ _ _ _ _ _ _ _ _ _ _ _ _ _ _ _ _ _)
   | (with_reducible exact ih3 _ _ _ _ _ _ _ _ _ _ _ _ _ _ _ _ _ _ _ _ _ _ _ _)
   | (with_reducible exact ih4 _ _ _ _ _ _ _ _ _ _ _ _)
   | (with_reducible exact ih5 _ _ _ _ _ _ _ _ _ _)
   | (with_reducible exact ih6 _ _ _ _ _ _ _ _ _ _)
   | (with_reducible exact ih7 _ _ _ _ _ _ _ _ _ _ _)
   | (with_reducible exact ih8 _ _ _ _ _ _ _ _ _ _ _ _ _ _ _ _ _ _ _ _ _ _ _ _)
   | (with_reducible exact imageeditorlaw24_awake.mono _)
   | (with_reducible exact imageeditorlaw24_same.mono _ _ _ _ _ _ _)
   | (with_reducible exact imageeditorref11_Check.mono _ _ _ _)
   | (with_reducible exact wand_Flood.mono _ _ _ _ _ _ _ _)
   | (with_reducible exact LeO.refl _)
   | (with_reducible exact LeO.none _)
   | (with_reducible refine LeO.ite ?_ ?_)
   | (with_reducible refine LeO.bind ?_ (fun _ => ?_))
   | exact ih0 _ _ _ _ _ _ _ _ _ _
   | exact ih1 _ _ _ _ _ _ _ _ _ _ _ _ _ _ _ _ _ _ _ _ _ _ _ _ _ _
   | exact ih2 _ _ _ _ _ _ _ _ _ _ _ _ _ _ _ _ _ _ _ _ _ _ _ _
   | exact ih3 _ _ _ _ _ _ _ _ _ _ _ _ _ _ _ _ _ _ _ _ _ _ _ _
   | exact ih4 _ _ _ _ _ _ _ _ _ _ _ _
   | exact ih5 _ _ _ _ _ _ _ _ _ _
   | exact ih6 _ _ _ _ _ _ _ _ _ _
   | exact ih7 _ _ _ _ _ _ _ _ _ _ _
   | exact ih8 _ _ _ _ _ _ _ _ _ _ _ _ _ _ _ _ _ _ _ _ _ _ _ _
   | exact imageeditorlaw24_awake.mono _
   | exact imageeditorlaw24_same.mono _ _ _ _ _ _ _
   | exact imageeditorref11_Check.mono _ _ _ _
   | exact wand_Flood.mono _ _ _ _ _ _ _ _
   | exact LeO.none _
   | refine LeO.ite ?_ ?_
   | refine LeO.bind ?_ (fun _ => ?_)
  ·intro y0 y1 y2 y3 y4 y5 y6 y7 y8 y9 y10
   unfold imageeditorlaw24_WandRegions.l0
   repeat' first
   | (with_reducible exact ih0 _ _ _ _ _ _ _ _ _ _)
   | (with_reducible exact ih1 _ _ _ _ _ _ _ _ _ _ _ _ _ _ _ _ _ _ _ _ _ _ _ _ _ _)
   | (with_reducible exact ih2 _ _ _ _ _ _ _ _ _ _ _ _ _ _ _ _ _ _ _ _ _ _ _ _)
   | (with_reducible exact ih3 _ _ _ _ _ _ _ _ _ _ _ _ _ _ _ _ _ _ _ _ _ _ _ _)
   | (with_reducible exact ih4 _ _ _ _ _ _ _ _ _ _ _ _)
   | (with_reducible exact ih5 _ _ _ _ _ _ _ _ _ _)
   | (with_reducible exact ih6 _ _ _ _ _ _ _ _ _ _)
   | (with_reducible exact ih7 _ _ _ _ _ _ _ _ _ _ _)
   | (with_reducible exact ih8 _ _ _ _ _ _ _ _ _ _ _ _ _ _ _ _ _ _ _ _ _ _ _ _)
   | (with_reducible exact imageeditorlaw24_awake.mono _)
   | (with_reducible exact imageeditorlaw24_same.mono _ _ _ _ _ _ _)
   | (with_reducible exact imageeditorref11_Check.mono _ _ _ _)
   | (with_reducible exact wand_Flood.mono _ _ _ _ _ _ _ _)
   | (with_reducible exact LeO.refl _)
   | (with_reducible exact LeO.none _)
   | (with_reducible refine LeO.ite ?_ ?_)
   | (with_reducible refine LeO.bind ?_ (fun _ => ?_))
   | exact ih0 _ _ _ _ _ _ _ _ _ _
   | exact ih1 _ _ _ _ _ _ _ _ _ _ _ _ _ _ _ _ _ _ _ _ _ _ _ _ _ _
   | exact ih2 _ _ _ _ _ _ _ _ _ _ _ _ _ _ _ _ _ _ _ _ _ _ _ _
   | exact ih3 _ _ _ _ _ _ _ _ _ _ _ _ _ _ _ _ _ _ _ _ _ _ _ _
   | exact ih4 _ _ _ _ _ _ _ _ _ _ _ _
   | exact ih5 _ _ _ _ _ _ _ _ _ _
   | exact ih6 _ _ _ _ _ _ _ _ _ _
   | exact ih7 _ _ _ _ _ _ _ _ _ _ _
   | exact ih8 _ _ _ _ _ _ _ _ _ _ _ _ _ _ _ _ _ _ _ _ _ _ _ _
   | exact imageeditorlaw24_awake.mono _
   | exact imageeditorlaw24_same.mono _ _ _ _ _ _ _
   | exact imageeditorref11_Check.mono _ _ _ _
   | exact wand_Flood.mono _ _ _ _ _ _ _ _
   | exact LeO.none _
   | refine LeO.ite ?_ ?_
   | refine LeO.bind ?_ (fun _ => ?_)
  ·intro y0 y1 y2 y3 y4 y5 y6 y7 y8 y9 y10 y11 y12 y13 y14 y15 y16 y17 y18 y19 y20 y21 y22 y23
   unfold imageeditorlaw24_WandRegions.j4
   repeat' first
   | (with_reducible exact ih0 _ _ _ _ _ _ _ _ _ _)
   | (with_reducible exact ih1 _ _ _ _ _ _ _ _ _ _ _ _ _ _ _ _ _ _ _ _ _ _ _ _ _ _)
   | (with_reducible exact ih2 _ _ _ _ _ _ _ _ _ _ _ _ _ _ _ _ _ _ _ _ _ _ _ _)
   | (with_reducible exact ih3 _ _ _ _ _ _ _ _ _ _ _ _ _ _ _ _ _ _ _ _ _ _ _ _)
   | (with_reducible exact ih4 _ _ _ _ _ _ _ _ _ _ _ _)
   | (with_reducible exact ih5 _ _ _ _ _ _ _ _ _ _)
   | (with_reducible exact ih6 _ _ _ _ _ _ _ _ _ _)
   | (with_reducible exact ih7 _ _ _ _ _ _ _ _ _ _ _)
   | (with_reducible exact ih8 _ _ _ _ _ _ _ _ _ _ _ _ _ _ _ _ _ _ _ _ _ _ _ _)
   | (with_reducible exact imageeditorlaw24_awake.mono _)
   | (with_reducible exact imageeditorlaw24_same.mono _ _ _ _ _ _ _)
   | (with_reducible exact imageeditorref11_Check.mono _ _ _ _)
   | (with_reducible exact wand_Flood.mono _ _ _ _ _ _ _ _)
   | (with_reducible exact LeO.refl _)
   | (with_reducible exact LeO.none _)
   | (with_reducible refine LeO.ite ?_ ?_)
   | (with_reducible refine LeO.bind ?_ (fun _ => ?_))
   | exact ih0 _ _ _ _ _ _ _ _ _ _
   | exact ih1 _ _ _ _ _ _ _ _ _ _ _ _ _ _ _ _ _ _ _ _ _ _ _ _ _ _
   | exact ih2 _ _ _ _ _ _ _ _ _ _ _ _ _ _ _ _ _ _ _ _ _ _ _ _
   | exact ih3 _ _ _ _ _ _ _ _ _ _ _ _ _ _ _ _ _ _ _ _ _ _ _ _
   | exact ih4 _ _ _ _ _ _ _ _ _ _ _ _
   | exact ih5 _ _ _ _ _ _ _ _ _ _
   | exact ih6 _ _ _ _ _ _ _ _ _ _
   | exact ih7 _ _ _ _ _ _ _ _ _ _ _
   | exact ih8 _ _ _ _ _ _ _ _ _ _ _ _ _ _ _ _ _ _ _ _ _ _ _ _
   | exact imageeditorlaw24_awake.mono _
   | exact imageeditorlaw24_same.mono _ _ _ _ _ _ _
   | exact imageeditorref11_Check.mono _ _ _ _
   | exact wand_Flood.mono _ _ _ _ _ _ _ _
   | exact LeO.none _
   | refine LeO.ite ?_ ?_
   | refine LeO.bind ?_ (fun _ => ?_)
theorem imageeditorlaw24_WandRegions.mono : ∀ a0 a1 a2 a3 a4 a5 a6 a7 a8 k, LeO (imageeditorlaw24_WandRegions.f k a0 a1 a2 a3 a4 a5 a6 a7 a8) (imageeditorlaw24_WandRegions.f (k + 1) a0 a1 a2 a3 a4 a5 a6 a7 a8) := by
 intro a0 a1 a2 a3 a4 a5 a6 a7 a8 k
 obtain ⟨ih0, ih1, ih2, ih3, ih4, ih5, ih6, ih7, ih8⟩ := imageeditorlaw24_WandRegions.mono_l k
 unfold imageeditorlaw24_WandRegions.f
 repeat' first
   | (with_reducible exact ih0 _ _ _ _ _ _ _ _ _ _)
   | (with_reducible exact ih1 _ _ _ _ _ _ _ _ _ _ _ _ _ _ _ _ _ _ _ _ _ _ _ _ _ _)
   | (with_reducible exact ih2 _ _ _ _ _ _ _ _ _ _ _ _ _ _ _ _ _ _ _ _ _ _ _ _)
   | (with_reducible exact ih3 _ _ _ _ _ _ _ _ _ _ _ _ _ _ _ _ _ _ _ _ _ _ _ _)
   | (with_reducible exact ih4 _ _ _ _ _ _ _ _ _ _ _ _)
   | (with_reducible exact ih5 _ _ _ _ _ _ _ _ _ _)
   | (with_reducible exact ih6 _ _ _ _ _ _ _ _ _ _)
   | (with_reducible exact ih7 _ _ _ _ _ _ _ _ _ _ _)
   | (with_reducible exact ih8 _ _ _ _ _ _ _ _ _ _ _ _ _ _ _ _ _ _ _ _ _ _ _ _)
   | (with_reducible exact imageeditorlaw24_awake.mono _)
   | (with_reducible exact imageeditorlaw24_same.mono _ _ _ _ _ _ _)
   | (with_reducible exact imageeditorref11_Check.mono _ _ _ _)
   | (with_reducible exact wand_Flood.mono _ _ _ _ _ _ _ _)
   | (with_reducible exact LeO.refl _)
   | (with_reducible exact LeO.none _)
   | (with_reducible refine LeO.ite ?_ ?_)
   | (with_reducible refine LeO.bind ?_ (fun _ => ?_))
   | exact ih0 _ _ _ _ _ _ _ _ _ _
   | exact ih1 _ _ _ _ _ _ _ _ _ _ _ _ _ _ _ _ _ _ _ _ _ _ _ _ _ _
   | exact ih2 _ _ _ _ _ _ _ _ _ _ _ _ _ _ _ _ _ _ _ _ _ _ _ _
   | exact ih3 _ _ _ _ _ _ _ _ _ _ _ _ _ _ _ _ _ _ _ _ _ _ _ _
   | exact ih4 _ _ _ _ _ _ _ _ _ _ _ _
   | exact ih5 _ _ _ _ _ _ _ _ _ _
   | exact ih6 _ _ _ _ _ _ _ _ _ _
   | exact ih7 _ _ _ _ _ _ _ _ _ _ _
   | exact ih8 _ _ _ _ _ _ _ _ _ _ _ _ _ _ _ _ _ _ _ _ _ _ _ _
   | exact imageeditorlaw24_awake.mono _
   | exact imageeditorlaw24_same.mono _ _ _ _ _ _ _
   | exact imageeditorref11_Check.mono _ _ _ _
   | exact wand_Flood.mono _ _ _ _ _ _ _ _
   | exact LeO.none _
   | refine LeO.ite ?_ ?_
   | refine LeO.bind ?_ (fun _ => ?_)
set_option maxHeartbeats 8000000 in
set_option maxRecDepth 100000 in
theorem imageeditorlaw24_WandRegions.callsT (k : Nat) (a0_0 : Int) (a0_1 : Int) (A0_2 : Option Addr) (c0_2 : Nat) (l0_2 : List (S37)) (a1_0 : Int) (a1_1 : Int) (a2_0 : Int) (a2_1 : Int) (a3 : Int) (a4 : Int) (r : Bool) (w : World) (hr0_2 : Kd.C k37 w A0_2 l0_2.length l0_2) (hc0_2 : l0_2.length ≤ c0_2) (hT : r = true) (h : imageeditorlaw24_WandRegions.f k a0_0 a0_1 l0_2 a1_0 a1_1 a2_0 a2_1 a3 a4 = some r) :
  Calls Try.prog 6 #[.agg #[.int .i64 a0_0, .int .i64 a0_1, .slice A0_2 l0_2.length c0_2], .agg #[.int .i64 a1_0, .int .i64 a1_1], .agg #[.int .i64 a2_0, .int .i64 a2_1], .int .i64 a3, .int .i64 a4] w fun e w' => e = .returned (.bool r) ∧ Below w.heap.size w w' := by
 have hu24 := Try.underlying24
 have hu26 := Try.underlying26
 have hu29 := Try.underlying29
 have HT := Aside0.mk hT
 clear hT
 have HR0_2 := Aside0.mk hr0_2
 have HC0_2 := Aside0.mk hc0_2
 clear hr0_2 hc0_2
 have HB := Aside0.mk (Below.refl w.heap.size w)
 have H : (if a4 < 0 then (imageeditorlaw24_WandRegions.j0 k a3 a4 true a0_0 a0_1 l0_2 a1_0 a1_1 a2_0 a2_1) else (imageeditorlaw24_WandRegions.j0 k a3 a4 (decide (a4 > 65535)) a0_0 a0_1 l0_2 a1_0 a1_1 a2_0 a2_1)) = some r := h
 clear h
 have HC6 := Aside0.mk H
 clear H
 go_enter Try.func6, Try.ntmps6
 go_upto_region 1 with (first | ((with_reducible refine gate_dst (N := 5) rfl ?_); (try (refine gate_guard (by rfl) ?_; dsimp only)); refine box_event ?hg (N := 5) ?hd (cs := #[.int .i64 a0_0, .int .i64 a0_1, .slice A0_2 l0_2.length c0_2]) (t := 24) ?hr ?_; (case hd => rfl); (case hg => rfl); (case hr => first | (go_simp; done) | (go_simp; rfl)); intro gb624 hg w7 hbox hb; have GW624 := zg HB hg; have GE624 := zg HB hg; have n0_ := Aside0.mk (hbox); replace HB := zb HB hb; have BK624 := n0_; clear n0_; clear hb hbox hg) | ((with_reducible refine gate_dst (N := 6) rfl ?_); (try (refine gate_guard (by rfl) ?_; dsimp only)); refine box_event ?hg (N := 6) ?hd (cs := #[.int .i64 a1_0, .int .i64 a1_1]) (t := 26) ?hr ?_; (case hd => rfl); (case hg => rfl); (case hr => first | (go_simp; done) | (go_simp; rfl)); intro gb625 hg w8 hbox hb; have GW625 := zg HB hg; have GE625 := zg HB hg; have NB624_625 := zn BK624 hg; have NB625_624 := zn' BK624 hg; have n0_ := Aside0.mk (hbox); replace BK624 := zk BK624 hb; replace HB := zb HB hb; have BK625 := n0_; clear n0_; clear hb hbox hg) | ((with_reducible refine gate_dst (N := 7) rfl ?_); (try (refine gate_guard (by rfl) ?_; dsimp only)); refine box_event ?hg (N := 7) ?hd (cs := #[.int .i64 a2_0, .int .i64 a2_1]) (t := 26) ?hr ?_; (case hd => rfl); (case hg => rfl); (case hr => first | (go_simp; done) | (go_simp; rfl)); intro gb626 hg w9 hbox hb; have GW626 := zg HB hg; have GE626 := zg HB hg; have NB624_626 := zn BK624 hg; have NB626_624 := zn' BK624 hg; have NB625_626 := zn BK625 hg; have NB626_625 := zn' BK625 hg; have n0_ := Aside0.mk (hbox); replace BK624 := zk BK624 hb; replace BK625 := zk BK625 hb; replace HB := zb HB hb; have BK626 := n0_; clear n0_; clear hb hbox hg))
 (try simp only [Act.put, sA, sB, sC])
 go_cut [28] (fun v28 wc => ∃ (kq : Nat) (x28_5 : Bool), v28 = .bool x28_5 ∧ Aside0 (imageeditorlaw24_WandRegions.j0 kq a3 a4 x28_5 a0_0 a0_1 l0_2 a1_0 a1_1 a2_0 a2_1 = some r) ∧ Aside0 (kq ≤ k) ∧ Aside0 (wc.heap[gb624]? = some (.cells #[.int .i64 a0_0, .int .i64 a0_1, (.slice A0_2 l0_2.length c0_2)] 24 (0, 0))) ∧ Aside0 (wc.heap[gb625]? = some (.cells #[.int .i64 a1_0, .int .i64 a1_1] 26 (0, 0))) ∧ Aside0 (wc.heap[gb626]? = some (.cells #[.int .i64 a2_0, .int .i64 a2_1] 26 (0, 0))) ∧ Aside0 (Below w.heap.size w wc))
 case first =>
  have H := HC6.out
  clear HC6
  by_cases c10 : a4 < 0
  ·rw [if_pos c10] at H
   have c10b0 : decide (a4 < 0) = true := decide_eq_true c10
   clear c10
   (first | rw [c10b0] | (simp only [i64_w, i32_w]; rw [c10b0]) | skip)
   as_aux_lemma =>
    have H' := Aside0.mk H
    clear H
    go_wp2
    go_meet
    case rel => exact ⟨_, (true), (by first | rfl | (simp; done) | (simp [*]; done)), H', ⟨by first | omega | exact Nat.le_refl _⟩, ⟨by exact zk0 BK624⟩, ⟨by exact zk0 BK625⟩, ⟨by exact zk0 BK626⟩, ⟨by exact zb0 HB⟩⟩
  ·rw [if_neg c10] at H
   have c10b0 : decide (a4 < 0) = false := decide_eq_false c10
   clear c10
   (first | rw [c10b0] | (simp only [i64_w, i32_w]; rw [c10b0]) | skip)
   as_aux_lemma =>
    have H' := Aside0.mk H
    clear H
    go_wp2
    go_meet
    case rel => exact ⟨_, (decide (a4 > 65535)), (by first | rfl | (simp; done) | (simp [*]; done)), H', ⟨by first | omega | exact Nat.le_refl _⟩, ⟨by exact zk0 BK624⟩, ⟨by exact zk0 BK625⟩, ⟨by exact zk0 BK626⟩, ⟨by exact zb0 HB⟩⟩
 case rest =>
  clear HC6
  try clear c1
  try clear p2
  try clear c6
  try clear c10
  try clear c10b0
  obtain ⟨kq, x28_5, rfl, HA, HJ5, BK624, BK625, BK626, HB⟩ := hcut
  cases kq with
  | zero => exact absurd HA.out (by simp [imageeditorlaw24_WandRegions.j0])
  | succ kj5 =>
   have H := HA.out
   clear HA
   simp only [imageeditorlaw24_WandRegions.j0] at H
   by_cases c11 : x28_5 = true
   ·subst c11
    have H1 : ((imageeditorlaw24_awake.f kj5).bind fun t627 => (some t627)) = some r := by rw [if_pos rfl] at H; exact H
    clear H
    have H := H1
    clear H1
    replace H := Option.bind_eq_some_iff.mp H
    obtain ⟨t627, A120, H⟩ := H
    replace H : (some t627) = some r := H
    have A12 := Aside0.mk A120
    clear A120
    as_aux_lemma =>
     obtain rfl := Option.some.inj H
     (try clear BK624)
     (try clear BK625)
     (try clear BK626)
     go_wp2_with (first | ((with_reducible refine gate_callee (f := 12) rfl ?_); refine goesL_ (some 29) rfl rfl Try.func12 (by kernel_rfl) rfl #[] rfl (by (try simp only [List.map_toArray, List.map_cons, List.map_nil]); first | done | rfl | (simp only [List.length_drop, List.length_take]; rfl)) ?_; (with_reducible refine (imageeditorlaw24_awake.calls kj5  t627 _ A12.out).mono ?_); rintro e w13 ⟨rfl, hb⟩; refine ⟨_, rfl, ?_⟩; replace HB := zb HB hb; (try clear hb); (try clear hb2); (try clear hk); (try clear hi)))
     go_ret
     exact ⟨by first | rfl | (simp [errW_none, errW_some] <;> rfl) | (simp [*, errW_none, errW_some] <;> rfl), by exact zb0 HB⟩
   ·replace c11 := Bool.eq_false_iff.mpr c11
    subst c11
    have H1 : ((wand_Flood.f kj5 a0_0 a0_1 l0_2 a1_0 a1_1 0 false).bind fun bt628 => ((wand_Flood.f kj5 a0_0 a0_1 l0_2 a2_0 a2_1 0 false).bind fun bt635 => ((wand_Flood.f kj5 a0_0 a0_1 l0_2 a1_0 a1_1 a3 false).bind fun bt642 => ((wand_Flood.f kj5 a0_0 a0_1 l0_2 a1_0 a1_1 a3 true).bind fun bt649 => (if a3 ≥ 0 then (imageeditorlaw24_WandRegions.j1 kj5 a4 bt628.2.2.2 bt635.2.2.2 bt642.2.2.2 bt649.2.2.2 a3 (decide (a3 ≤ (wrap64 (65535 - a4)))) a0_0 a0_1 l0_2 a1_0 a1_1 a2_0 a2_1 bt628.1 bt628.2.1 bt628.2.2.1 bt635.1 bt635.2.1 bt635.2.2.1 bt642.1 bt642.2.1 bt642.2.2.1 bt649.1 bt649.2.1 bt649.2.2.1) else (imageeditorlaw24_WandRegions.j1 kj5 a4 bt628.2.2.2 bt635.2.2.2 bt642.2.2.2 bt649.2.2.2 a3 false a0_0 a0_1 l0_2 a1_0 a1_1 a2_0 a2_1 bt628.1 bt628.2.1 bt628.2.2.1 bt635.1 bt635.2.1 bt635.2.2.1 bt642.1 bt642.2.1 bt642.2.2.1 bt649.1 bt649.2.1 bt649.2.2.1)))))) = some r := by rw [if_neg (show ¬ (false = true) by decide)] at H; exact H
    clear H
    have H := H1
    clear H1
    replace H := Option.bind_eq_some_iff.mp H
    obtain ⟨⟨t628, t629, t630, t633⟩, A140, H⟩ := H
    replace H : ((wand_Flood.f kj5 a0_0 a0_1 l0_2 a2_0 a2_1 0 false).bind fun bt635 => ((wand_Flood.f kj5 a0_0 a0_1 l0_2 a1_0 a1_1 a3 false).bind fun bt642 => ((wand_Flood.f kj5 a0_0 a0_1 l0_2 a1_0 a1_1 a3 true).bind fun bt649 => (if a3 ≥ 0 then (imageeditorlaw24_WandRegions.j1 kj5 a4 t633 bt635.2.2.2 bt642.2.2.2 bt649.2.2.2 a3 (decide (a3 ≤ (wrap64 (65535 - a4)))) a0_0 a0_1 l0_2 a1_0 a1_1 a2_0 a2_1 t628 t629 t630 bt635.1 bt635.2.1 bt635.2.2.1 bt642.1 bt642.2.1 bt642.2.2.1 bt649.1 bt649.2.1 bt649.2.2.1) else (imageeditorlaw24_WandRegions.j1 kj5 a4 t633 bt635.2.2.2 bt642.2.2.2 bt649.2.2.2 a3 false a0_0 a0_1 l0_2 a1_0 a1_1 a2_0 a2_1 t628 t629 t630 bt635.1 bt635.2.1 bt635.2.2.1 bt642.1 bt642.2.1 bt642.2.2.1 bt649.1 bt649.2.1 bt649.2.2.1))))) = some r := H
    have A14 := Aside0.mk A140
    clear A140
    replace H := Option.bind_eq_some_iff.mp H
    obtain ⟨⟨t635, t636, t637, t640⟩, A150, H⟩ := H
    replace H : ((wand_Flood.f kj5 a0_0 a0_1 l0_2 a1_0 a1_1 a3 false).bind fun bt642 => ((wand_Flood.f kj5 a0_0 a0_1 l0_2 a1_0 a1_1 a3 true).bind fun bt649 => (if a3 ≥ 0 then (imageeditorlaw24_WandRegions.j1 kj5 a4 t633 t640 bt642.2.2.2 bt649.2.2.2 a3 (decide (a3 ≤ (wrap64 (65535 - a4)))) a0_0 a0_1 l0_2 a1_0 a1_1 a2_0 a2_1 t628 t629 t630 t635 t636 t637 bt642.1 bt642.2.1 bt642.2.2.1 bt649.1 bt649.2.1 bt649.2.2.1) else (imageeditorlaw24_WandRegions.j1 kj5 a4 t633 t640 bt642.2.2.2 bt649.2.2.2 a3 false a0_0 a0_1 l0_2 a1_0 a1_1 a2_0 a2_1 t628 t629 t630 t635 t636 t637 bt642.1 bt642.2.1 bt642.2.2.1 bt649.1 bt649.2.1 bt649.2.2.1)))) = some r := H
    have A15 := Aside0.mk A150
    clear A150
    replace H := Option.bind_eq_some_iff.mp H
    obtain ⟨⟨t642, t643, t644, t647⟩, A160, H⟩ := H
    replace H : ((wand_Flood.f kj5 a0_0 a0_1 l0_2 a1_0 a1_1 a3 true).bind fun bt649 => (if a3 ≥ 0 then (imageeditorlaw24_WandRegions.j1 kj5 a4 t633 t640 t647 bt649.2.2.2 a3 (decide (a3 ≤ (wrap64 (65535 - a4)))) a0_0 a0_1 l0_2 a1_0 a1_1 a2_0 a2_1 t628 t629 t630 t635 t636 t637 t642 t643 t644 bt649.1 bt649.2.1 bt649.2.2.1) else (imageeditorlaw24_WandRegions.j1 kj5 a4 t633 t640 t647 bt649.2.2.2 a3 false a0_0 a0_1 l0_2 a1_0 a1_1 a2_0 a2_1 t628 t629 t630 t635 t636 t637 t642 t643 t644 bt649.1 bt649.2.1 bt649.2.2.1))) = some r := H
    have A16 := Aside0.mk A160
    clear A160
    replace H := Option.bind_eq_some_iff.mp H
    obtain ⟨⟨t649, t650, t651, t654⟩, A170, H⟩ := H
    replace H : (if a3 ≥ 0 then (imageeditorlaw24_WandRegions.j1 kj5 a4 t633 t640 t647 t654 a3 (decide (a3 ≤ (wrap64 (65535 - a4)))) a0_0 a0_1 l0_2 a1_0 a1_1 a2_0 a2_1 t628 t629 t630 t635 t636 t637 t642 t643 t644 t649 t650 t651) else (imageeditorlaw24_WandRegions.j1 kj5 a4 t633 t640 t647 t654 a3 false a0_0 a0_1 l0_2 a1_0 a1_1 a2_0 a2_1 t628 t629 t630 t635 t636 t637 t642 t643 t644 t649 t650 t651)) = some r := H
    have A17 := Aside0.mk A170
    clear A170
    have HC18 := Aside0.mk H
    clear H
    have hnb19 := NB624_625.out
    have hnc19 := NB625_624.out
    have hnb20 := NB624_626.out
    have hnc20 := NB626_624.out
    obtain ⟨hcz21_0, hcz21_1, hcz21_2, hfz21_0, hfz21_1, hfz21_2⟩ := zq3 BK624
    have hnb22 := NB625_626.out
    have hnc22 := NB626_625.out
    obtain ⟨hcz23_0, hcz23_1, hfz23_0, hfz23_1⟩ := zq2 BK625
    go_upto_region 8 with (first | ((with_reducible refine gate_callee (f := 9) rfl ?_); refine goesL_ (some 33) rfl rfl Try.func9 (by kernel_rfl) rfl #[.agg #[.int .i64 a0_0, .int .i64 a0_1, .slice A0_2 l0_2.length c0_2], .agg #[.int .i64 a1_0, .int .i64 a1_1], .int .i64 0, .bool false] rfl (by (try simp only [List.map_toArray, List.map_cons, List.map_nil]); first | done | rfl | (simp only [List.length_drop, List.length_take]; rfl)) ?_; (with_reducible refine (wand_Flood.calls kj5 a0_0 a0_1 _ _ l0_2 a1_0 a1_1 0 false t628 t629 t630 t633 _ ?side1 ?side2 A14.out).mono ?_); (case side1 => repeat (first | exact (Kd.C_below HR0_2.out HB.out) | (with_reducible refine Kd.C_alloc ?_ _) | (with_reducible refine Kd.C_drewN ?_ _) | (with_reducible refine Kd.C_drew ?_))); (case side2 => exact HC0_2.out); rintro e w24 ⟨v631, rfl, ho0, hb⟩; refine ⟨_, rfl, ?_⟩; have HO632 := zl HB ho0; replace BK624 := zk BK624 hb; replace BK625 := zk BK625 hb; replace BK626 := zk BK626 hb; replace HB := zb HB hb; (try clear hb); (try clear hb2); (try clear hk); (try clear hi); (try clear ho0)) | ((with_reducible refine gate_dst (N := 11) rfl ?_); (try (refine gate_guard (by rfl) ?_; dsimp only)); refine box_event ?hg (N := 11) ?hd (cs := #[.int .i64 0, .int .i64 0, .slice none 0 0]) (t := 29) ?hr ?_; (case hd => rfl); (case hg => rfl); (case hr => first | (go_simp; done) | (go_simp; rfl)); intro gb634 hg w25 hbox hb; have GW634 := zg HB hg; have GE634 := zg HB hg; have NB624_634 := zn BK624 hg; have NB634_624 := zn' BK624 hg; have NB625_634 := zn BK625 hg; have NB634_625 := zn' BK625 hg; have NB626_634 := zn BK626 hg; have NB634_626 := zn' BK626 hg; have n0_ := Aside0.mk (hbox); replace HO632 := zr HO632 hb; replace BK624 := zk BK624 hb; replace BK625 := zk BK625 hb; replace BK626 := zk BK626 hb; replace HB := zb HB hb; have BK634 := n0_; clear n0_; clear hb hbox hg; have hnb26 := NB634_624.out; have hnc26 := NB624_634.out; have hnb27 := NB634_625.out; have hnc27 := NB625_634.out; have hnb28 := NB634_626.out; have hnc28 := NB626_634.out; obtain ⟨hcz29_0, hcz29_1, hcz29_2, hfz29_0, hfz29_1, hfz29_2⟩ := zq3 BK634; obtain ⟨Ao30, co30, eo30⟩ := Kd.R_slice HO632.out; subst eo30; obtain ⟨hcz31_0, hcz31_1, hcz31_2, hfz31_0, hfz31_1, hfz31_2⟩ := zq3 BK624; obtain ⟨hcz32_0, hcz32_1, hfz32_0, hfz32_1⟩ := zq2 BK626) | ((with_reducible refine gate_callee (f := 9) rfl ?_); refine goesL_ (some 39) rfl rfl Try.func9 (by kernel_rfl) rfl #[.agg #[.int .i64 a0_0, .int .i64 a0_1, .slice A0_2 l0_2.length c0_2], .agg #[.int .i64 a2_0, .int .i64 a2_1], .int .i64 0, .bool false] rfl (by (try simp only [List.map_toArray, List.map_cons, List.map_nil]); first | done | rfl | (simp only [List.length_drop, List.length_take]; rfl)) ?_; (with_reducible refine (wand_Flood.calls kj5 a0_0 a0_1 _ _ l0_2 a2_0 a2_1 0 false t635 t636 t637 t640 _ ?side1 ?side2 A15.out).mono ?_); (case side1 => exact Kd.C_below HR0_2.out (by exact zbo HB GE634)); (case side2 => exact HC0_2.out); rintro e w33 ⟨v638, rfl, ho0, hb⟩; refine ⟨_, rfl, ?_⟩; have n0_ := Aside0.mk (Kd.R_below (by exact zro HO632 BK634 (by decide)) hb); have n1_ := Aside0.mk (Kd.R_lower ho0 (below_size (by exact zbo HB GE634))); have n2_ := Aside0.mk (blk_below (g := gb634) (o := .cells #[.int .i64 t628, .int .i64 t629, .slice Ao30 t630.length co30] 29 (0, 0)) (by exact zp BK634 rfl) hb); have n3_ := Aside0.mk (below_step (by exact zbo HB GE634) hb); replace BK624 := zfk BK624 NB624_634 hb; replace BK625 := zfk BK625 NB625_634 hb; replace BK626 := zfk BK626 NB626_634 hb; clear HO632; clear BK634; clear HB; have HO632 := n0_; have HO639 := n1_; have BK634 := n2_; have HB := n3_; clear n0_ n1_ n2_ n3_; (try clear hb); (try clear hb2); (try clear hk); (try clear hi); (try clear ho0)) | ((with_reducible refine gate_dst (N := 13) rfl ?_); (try (refine gate_guard (by rfl) ?_; dsimp only)); refine box_event ?hg (N := 13) ?hd (cs := #[.int .i64 0, .int .i64 0, .slice none 0 0]) (t := 29) ?hr ?_; (case hd => rfl); (case hg => rfl); (case hr => first | (go_simp; done) | (go_simp; rfl)); intro gb641 hg w34 hbox hb; have GW641 := zg HB hg; have GE641 := zg HB hg; have NB624_641 := zn BK624 hg; have NB641_624 := zn' BK624 hg; have NB625_641 := zn BK625 hg; have NB641_625 := zn' BK625 hg; have NB626_641 := zn BK626 hg; have NB641_626 := zn' BK626 hg; have NB634_641 := zn BK634 hg; have NB641_634 := zn' BK634 hg; have n0_ := Aside0.mk (hbox); replace HO632 := zr HO632 hb; replace HO639 := zr HO639 hb; replace BK624 := zk BK624 hb; replace BK625 := zk BK625 hb; replace BK626 := zk BK626 hb; replace BK634 := zk BK634 hb; replace HB := zb HB hb; have BK641 := n0_; clear n0_; clear hb hbox hg; have hnb35 := NB641_624.out; have hnc35 := NB624_641.out; have hnb36 := NB641_625.out; have hnc36 := NB625_641.out; have hnb37 := NB641_626.out; have hnc37 := NB626_641.out; have hnb38 := NB641_634.out; have hnc38 := NB634_641.out; obtain ⟨hcz39_0, hcz39_1, hcz39_2, hfz39_0, hfz39_1, hfz39_2⟩ := zq3 BK641; obtain ⟨Ao40, co40, eo40⟩ := Kd.R_slice HO639.out; subst eo40; obtain ⟨hcz41_0, hcz41_1, hcz41_2, hfz41_0, hfz41_1, hfz41_2⟩ := zq3 BK624; obtain ⟨hcz42_0, hcz42_1, hfz42_0, hfz42_1⟩ := zq2 BK625) | ((with_reducible refine gate_callee (f := 9) rfl ?_); refine goesL_ (some 46) rfl rfl Try.func9 (by kernel_rfl) rfl #[.agg #[.int .i64 a0_0, .int .i64 a0_1, .slice A0_2 l0_2.length c0_2], .agg #[.int .i64 a1_0, .int .i64 a1_1], .int .i64 a3, .bool false] rfl (by (try simp only [List.map_toArray, List.map_cons, List.map_nil]); first | done | rfl | (simp only [List.length_drop, List.length_take]; rfl)) ?_; (with_reducible refine (wand_Flood.calls kj5 a0_0 a0_1 _ _ l0_2 a1_0 a1_1 a3 false t642 t643 t644 t647 _ ?side1 ?side2 A16.out).mono ?_); (case side1 => exact Kd.C_below HR0_2.out (by exact zbo HB GE641)); (case side2 => exact HC0_2.out); rintro e w43 ⟨v645, rfl, ho0, hb⟩; refine ⟨_, rfl, ?_⟩; have n0_ := Aside0.mk (Kd.R_below (by exact zro HO632 BK641 (by decide)) hb); have n1_ := Aside0.mk (Kd.R_below (by exact zro HO639 BK641 (by decide)) hb); have n2_ := Aside0.mk (Kd.R_lower ho0 (below_size (by exact zbo HB GE641))); have n3_ := Aside0.mk (blk_below (g := gb641) (o := .cells #[.int .i64 t635, .int .i64 t636, .slice Ao40 t637.length co40] 29 (0, 0)) (by exact zp BK641 rfl) hb); have n4_ := Aside0.mk (below_step (by exact zbo HB GE641) hb); replace BK624 := zfk BK624 NB624_641 hb; replace BK625 := zfk BK625 NB625_641 hb; replace BK626 := zfk BK626 NB626_641 hb; replace BK634 := zfk BK634 NB634_641 hb; clear HO632; clear HO639; clear BK641; clear HB; have HO632 := n0_; have HO639 := n1_; have HO646 := n2_; have BK641 := n3_; have HB := n4_; clear n0_ n1_ n2_ n3_ n4_; (try clear hb); (try clear hb2); (try clear hk); (try clear hi); (try clear ho0)) | ((with_reducible refine gate_dst (N := 15) rfl ?_); (try (refine gate_guard (by rfl) ?_; dsimp only)); refine box_event ?hg (N := 15) ?hd (cs := #[.int .i64 0, .int .i64 0, .slice none 0 0]) (t := 29) ?hr ?_; (case hd => rfl); (case hg => rfl); (case hr => first | (go_simp; done) | (go_simp; rfl)); intro gb648 hg w44 hbox hb; have GW648 := zg HB hg; have GE648 := zg HB hg; have NB624_648 := zn BK624 hg; have NB648_624 := zn' BK624 hg; have NB625_648 := zn BK625 hg; have NB648_625 := zn' BK625 hg; have NB626_648 := zn BK626 hg; have NB648_626 := zn' BK626 hg; have NB634_648 := zn BK634 hg; have NB648_634 := zn' BK634 hg; have NB641_648 := zn BK641 hg; have NB648_641 := zn' BK641 hg; have n0_ := Aside0.mk (hbox); replace HO632 := zr HO632 hb; replace HO639 := zr HO639 hb; replace HO646 := zr HO646 hb; replace BK624 := zk BK624 hb; replace BK625 := zk BK625 hb; replace BK626 := zk BK626 hb; replace BK634 := zk BK634 hb; replace BK641 := zk BK641 hb; replace HB := zb HB hb; have BK648 := n0_; clear n0_; clear hb hbox hg; have hnb45 := NB648_624.out; have hnc45 := NB624_648.out; have hnb46 := NB648_625.out; have hnc46 := NB625_648.out; have hnb47 := NB648_626.out; have hnc47 := NB626_648.out; have hnb48 := NB648_634.out; have hnc48 := NB634_648.out; have hnb49 := NB648_641.out; have hnc49 := NB641_648.out; obtain ⟨hcz50_0, hcz50_1, hcz50_2, hfz50_0, hfz50_1, hfz50_2⟩ := zq3 BK648; obtain ⟨Ao51, co51, eo51⟩ := Kd.R_slice HO646.out; subst eo51; obtain ⟨hcz52_0, hcz52_1, hcz52_2, hfz52_0, hfz52_1, hfz52_2⟩ := zq3 BK624; obtain ⟨hcz53_0, hcz53_1, hfz53_0, hfz53_1⟩ := zq2 BK625) | ((with_reducible refine gate_callee (f := 9) rfl ?_); refine goesL_ (some 53) rfl rfl Try.func9 (by kernel_rfl) rfl #[.agg #[.int .i64 a0_0, .int .i64 a0_1, .slice A0_2 l0_2.length c0_2], .agg #[.int .i64 a1_0, .int .i64 a1_1], .int .i64 a3, .bool true] rfl (by (try simp only [List.map_toArray, List.map_cons, List.map_nil]); first | done | rfl | (simp only [List.length_drop, List.length_take]; rfl)) ?_; (with_reducible refine (wand_Flood.calls kj5 a0_0 a0_1 _ _ l0_2 a1_0 a1_1 a3 true t649 t650 t651 t654 _ ?side1 ?side2 A17.out).mono ?_); (case side1 => exact Kd.C_below HR0_2.out (by exact zbo HB GE648)); (case side2 => exact HC0_2.out); rintro e w54 ⟨v652, rfl, ho0, hb⟩; refine ⟨_, rfl, ?_⟩; have n0_ := Aside0.mk (Kd.R_below (by exact zro HO632 BK648 (by decide)) hb); have n1_ := Aside0.mk (Kd.R_below (by exact zro HO639 BK648 (by decide)) hb); have n2_ := Aside0.mk (Kd.R_below (by exact zro HO646 BK648 (by decide)) hb); have n3_ := Aside0.mk (Kd.R_lower ho0 (below_size (by exact zbo HB GE648))); have n4_ := Aside0.mk (blk_below (g := gb648) (o := .cells #[.int .i64 t642, .int .i64 t643, .slice Ao51 t644.length co51] 29 (0, 0)) (by exact zp BK648 rfl) hb); have n5_ := Aside0.mk (below_step (by exact zbo HB GE648) hb); replace BK624 := zfk BK624 NB624_648 hb; replace BK625 := zfk BK625 NB625_648 hb; replace BK626 := zfk BK626 NB626_648 hb; replace BK634 := zfk BK634 NB634_648 hb; replace BK641 := zfk BK641 NB641_648 hb; clear HO632; clear HO639; clear HO646; clear BK648; clear HB; have HO632 := n0_; have HO639 := n1_; have HO646 := n2_; have HO653 := n3_; have BK648 := n4_; have HB := n5_; clear n0_ n1_ n2_ n3_ n4_ n5_; (try clear hb); (try clear hb2); (try clear hk); (try clear hi); (try clear ho0)) | ((with_reducible refine gate_dst (N := 17) rfl ?_); (try (refine gate_guard (by rfl) ?_; dsimp only)); refine box_event ?hg (N := 17) ?hd (cs := #[.int .i64 0, .int .i64 0, .slice none 0 0]) (t := 29) ?hr ?_; (case hd => rfl); (case hg => rfl); (case hr => first | (go_simp; done) | (go_simp; rfl)); intro gb655 hg w55 hbox hb; have GW655 := zg HB hg; have GE655 := zg HB hg; have NB624_655 := zn BK624 hg; have NB655_624 := zn' BK624 hg; have NB625_655 := zn BK625 hg; have NB655_625 := zn' BK625 hg; have NB626_655 := zn BK626 hg; have NB655_626 := zn' BK626 hg; have NB634_655 := zn BK634 hg; have NB655_634 := zn' BK634 hg; have NB641_655 := zn BK641 hg; have NB655_641 := zn' BK641 hg; have NB648_655 := zn BK648 hg; have NB655_648 := zn' BK648 hg; have n0_ := Aside0.mk (hbox); replace HO632 := zr HO632 hb; replace HO639 := zr HO639 hb; replace HO646 := zr HO646 hb; replace HO653 := zr HO653 hb; replace BK624 := zk BK624 hb; replace BK625 := zk BK625 hb; replace BK626 := zk BK626 hb; replace BK634 := zk BK634 hb; replace BK641 := zk BK641 hb; replace BK648 := zk BK648 hb; replace HB := zb HB hb; have BK655 := n0_; clear n0_; clear hb hbox hg; have hnb56 := NB655_624.out; have hnc56 := NB624_655.out; have hnb57 := NB655_625.out; have hnc57 := NB625_655.out; have hnb58 := NB655_626.out; have hnc58 := NB626_655.out; have hnb59 := NB655_634.out; have hnc59 := NB634_655.out; have hnb60 := NB655_641.out; have hnc60 := NB641_655.out; have hnb61 := NB655_648.out; have hnc61 := NB648_655.out; obtain ⟨hcz62_0, hcz62_1, hcz62_2, hfz62_0, hfz62_1, hfz62_2⟩ := zq3 BK655; obtain ⟨Ao63, co63, eo63⟩ := Kd.R_slice HO653.out; subst eo63))
    (try simp only [Act.put, sA, sB, sC])
    go_cut [64] (fun v64 wc => ∃ (kq : Nat) (x64_17 : Bool), v64 = .bool x64_17 ∧ Aside0 (imageeditorlaw24_WandRegions.j1 kq a4 t633 t640 t647 t654 a3 x64_17 a0_0 a0_1 l0_2 a1_0 a1_1 a2_0 a2_1 t628 t629 t630 t635 t636 t637 t642 t643 t644 t649 t650 t651 = some r) ∧ Aside0 (kq ≤ kj5) ∧ Aside0 (Kd.R (Kd.int .i64) 3 wc w.heap.size (fun _ => True) (.slice Ao30 t630.length co30) t630) ∧ Aside0 (Kd.R (Kd.int .i64) 3 wc w.heap.size (fun _ => True) (.slice Ao40 t637.length co40) t637) ∧ Aside0 (Kd.R (Kd.int .i64) 3 wc w.heap.size (fun _ => True) (.slice Ao51 t644.length co51) t644) ∧ Aside0 (Kd.R (Kd.int .i64) 3 wc w.heap.size (fun _ => True) (.slice Ao63 t651.length co63) t651) ∧ Aside0 (wc.heap[gb624]? = some (.cells #[.int .i64 a0_0, .int .i64 a0_1, (.slice A0_2 l0_2.length c0_2)] 24 (0, 0))) ∧ Aside0 (wc.heap[gb625]? = some (.cells #[.int .i64 a1_0, .int .i64 a1_1] 26 (0, 0))) ∧ Aside0 (wc.heap[gb626]? = some (.cells #[.int .i64 a2_0, .int .i64 a2_1] 26 (0, 0))) ∧ Aside0 (wc.heap[gb634]? = some (.cells #[.int .i64 t628, .int .i64 t629, (.slice Ao30 t630.length co30)] 29 (0, 0))) ∧ Aside0 (wc.heap[gb641]? = some (.cells #[.int .i64 t635, .int .i64 t636, (.slice Ao40 t637.length co40)] 29 (0, 0))) ∧ Aside0 (wc.heap[gb648]? = some (.cells #[.int .i64 t642, .int .i64 t643, (.slice Ao51 t644.length co51)] 29 (0, 0))) ∧ Aside0 (wc.heap[gb655]? = some (.cells #[.int .i64 t649, .int .i64 t650, (.slice Ao63 t651.length co63)] 29 (0, 0))) ∧ Aside0 (Below w.heap.size w wc))
    case first =>
     have H := HC18.out
     clear HC18
     by_cases c64 : a3 ≥ 0
     ·rw [if_pos c64] at H
      have c64b0 : decide (0 ≤ a3) = true := decide_eq_true c64
      clear c64
      (first | rw [c64b0] | (simp only [i64_w, i32_w]; rw [c64b0]) | skip)
      as_aux_lemma =>
       have H' := Aside0.mk H
       clear H
       go_wp2
       go_meet
       case rel => exact ⟨_, (decide (a3 ≤ (wrap64 (65535 - a4)))), (by first | rfl | (simp; done) | (simp [*]; done)), H', ⟨by have := HJ5.out; first | omega | exact Nat.le_refl _⟩, ⟨by exact zro HO632 BK655 (by decide)⟩, ⟨by exact zro HO639 BK655 (by decide)⟩, ⟨by exact zro HO646 BK655 (by decide)⟩, ⟨by exact zro HO653 BK655 (by decide)⟩, ⟨by exact zf BK624 NB624_655⟩, ⟨by exact zf BK625 NB625_655⟩, ⟨by exact zf BK626 NB626_655⟩, ⟨by exact zf BK634 NB634_655⟩, ⟨by exact zf BK641 NB641_655⟩, ⟨by exact zf BK648 NB648_655⟩, ⟨by exact zp BK655 rfl⟩, ⟨by exact zbo HB GE655⟩⟩
     ·rw [if_neg c64] at H
      have c64b0 : decide (0 ≤ a3) = false := decide_eq_false c64
      clear c64
      (first | rw [c64b0] | (simp only [i64_w, i32_w]; rw [c64b0]) | skip)
      as_aux_lemma =>
       have H' := Aside0.mk H
       clear H
       go_wp2
       go_meet
       case rel => exact ⟨_, (false), (by first | rfl | (simp; done) | (simp [*]; done)), H', ⟨by have := HJ5.out; first | omega | exact Nat.le_refl _⟩, ⟨by exact zro HO632 BK655 (by decide)⟩, ⟨by exact zro HO639 BK655 (by decide)⟩, ⟨by exact zro HO646 BK655 (by decide)⟩, ⟨by exact zro HO653 BK655 (by decide)⟩, ⟨by exact zf BK624 NB624_655⟩, ⟨by exact zf BK625 NB625_655⟩, ⟨by exact zf BK626 NB626_655⟩, ⟨by exact zf BK634 NB634_655⟩, ⟨by exact zf BK641 NB641_655⟩, ⟨by exact zf BK648 NB648_655⟩, ⟨by exact zp BK655 rfl⟩, ⟨by exact zbo HB GE655⟩⟩
    case rest =>
     clear HC18
     try clear c1
     try clear c2
     try clear p2
     try clear q2
     try clear c3
     try clear q3
     try clear c4
     try clear c5
     try clear c6
     try clear p6
     try clear c9
     try clear c10
     try clear c10b0
     try clear c11
     try clear c12
     try clear c19
     try clear c20
     try clear c22
     try clear c26
     try clear c27
     try clear c28
     try clear c35
     try clear c36
     try clear c37
     try clear c38
     try clear c45
     try clear c46
     try clear c47
     try clear c48
     try clear c49
     try clear c56
     try clear c57
     try clear c58
     try clear c59
     try clear c60
     try clear c61
     try clear c64
     try clear c64b0
     try clear p64
     try clear hcz21_0
     try clear hcz21_1
     try clear hcz21_2
     try clear hcz23_0
     try clear hcz23_1
     try clear hcz29_0
     try clear hcz29_1
     try clear hcz29_2
     try clear hcz31_0
     try clear hcz31_1
     try clear hcz31_2
     try clear hcz32_0
     try clear hcz32_1
     try clear hcz39_0
     try clear hcz39_1
     try clear hcz39_2
     try clear hcz41_0
     try clear hcz41_1
     try clear hcz41_2
     try clear hcz42_0
     try clear hcz42_1
     try clear hcz50_0
     try clear hcz50_1
     try clear hcz50_2
     try clear hcz52_0
     try clear hcz52_1
     try clear hcz52_2
     try clear hcz53_0
     try clear hcz53_1
     try clear hcz62_0
     try clear hcz62_1
     try clear hcz62_2
     try clear hfz21_0
     try clear hfz21_1
     try clear hfz21_2
     try clear hfz23_0
     try clear hfz23_1
     try clear hfz29_0
     try clear hfz29_1
     try clear hfz29_2
     try clear hfz31_0
     try clear hfz31_1
     try clear hfz31_2
     try clear hfz32_0
     try clear hfz32_1
     try clear hfz39_0
     try clear hfz39_1
     try clear hfz39_2
     try clear hfz41_0
     try clear hfz41_1
     try clear hfz41_2
     try clear hfz42_0
     try clear hfz42_1
     try clear hfz50_0
     try clear hfz50_1
     try clear hfz50_2
     try clear hfz52_0
     try clear hfz52_1
     try clear hfz52_2
     try clear hfz53_0
     try clear hfz53_1
     try clear hfz62_0
     try clear hfz62_1
     try clear hfz62_2
     try clear p2
     obtain ⟨kq, x64_17, rfl, HA, HJ17, HO_635002, HO_642002, HO_649002, HO_656002, BK624, BK625, BK626, BK634, BK641, BK648, BK655, HB⟩ := hcut
     cases kq with
     | zero => exact absurd HA.out (by simp [imageeditorlaw24_WandRegions.j1])
     | succ kj17 =>
      have H := HA.out
      clear HA
      simp only [imageeditorlaw24_WandRegions.j1] at H
      have HC65 := Aside0.mk H
      clear H
      go_upto_if 64 with (fail)
      go_cut [19] (fun v19 wc => ∃ (kq : Nat) (x19_64 : Int), v19 = .int .i64 x19_64 ∧ Aside0 (imageeditorlaw24_WandRegions.j2 kq t633 t640 t647 t654 x19_64 a0_0 a0_1 l0_2 a1_0 a1_1 a2_0 a2_1 t628 t629 t630 t635 t636 t637 t642 t643 t644 t649 t650 t651 = some r) ∧ Aside0 (kq ≤ kj17) ∧ Aside0 (Kd.R (Kd.int .i64) 3 wc w.heap.size (fun _ => True) (.slice Ao30 t630.length co30) t630) ∧ Aside0 (Kd.R (Kd.int .i64) 3 wc w.heap.size (fun _ => True) (.slice Ao40 t637.length co40) t637) ∧ Aside0 (Kd.R (Kd.int .i64) 3 wc w.heap.size (fun _ => True) (.slice Ao51 t644.length co51) t644) ∧ Aside0 (Kd.R (Kd.int .i64) 3 wc w.heap.size (fun _ => True) (.slice Ao63 t651.length co63) t651) ∧ Aside0 (wc.heap[gb624]? = some (.cells #[.int .i64 a0_0, .int .i64 a0_1, (.slice A0_2 l0_2.length c0_2)] 24 (0, 0))) ∧ Aside0 (wc.heap[gb625]? = some (.cells #[.int .i64 a1_0, .int .i64 a1_1] 26 (0, 0))) ∧ Aside0 (wc.heap[gb626]? = some (.cells #[.int .i64 a2_0, .int .i64 a2_1] 26 (0, 0))) ∧ Aside0 (wc.heap[gb634]? = some (.cells #[.int .i64 t628, .int .i64 t629, (.slice Ao30 t630.length co30)] 29 (0, 0))) ∧ Aside0 (wc.heap[gb641]? = some (.cells #[.int .i64 t635, .int .i64 t636, (.slice Ao40 t637.length co40)] 29 (0, 0))) ∧ Aside0 (wc.heap[gb648]? = some (.cells #[.int .i64 t642, .int .i64 t643, (.slice Ao51 t644.length co51)] 29 (0, 0))) ∧ Aside0 (wc.heap[gb655]? = some (.cells #[.int .i64 t649, .int .i64 t650, (.slice Ao63 t651.length co63)] 29 (0, 0))) ∧ Aside0 (Below w.heap.size w wc))
      case first =>
       have H := HC65.out
       clear HC65
       by_cases c66 : x64_17 = true
       ·subst c66
        have H1 : (imageeditorlaw24_WandRegions.j2 kj17 t633 t640 t647 t654 (wrap64 (a3 + a4)) a0_0 a0_1 l0_2 a1_0 a1_1 a2_0 a2_1 t628 t629 t630 t635 t636 t637 t642 t643 t644 t649 t650 t651) = some r := by rw [if_pos rfl] at H; exact H
        clear H
        have H := H1
        clear H1
        as_aux_lemma =>
         have H' := Aside0.mk H
         clear H
         go_wp2
         go_meet
         case rel => exact ⟨_, (wrap64 (a3 + a4)), (by first | rfl | (simp; done) | (simp [*]; done)), H', ⟨by have := HJ5.out; have := HJ17.out; first | omega | exact Nat.le_refl _⟩, ⟨by exact zr0 HO_635002⟩, ⟨by exact zr0 HO_642002⟩, ⟨by exact zr0 HO_649002⟩, ⟨by exact zr0 HO_656002⟩, ⟨by exact zk0 BK624⟩, ⟨by exact zk0 BK625⟩, ⟨by exact zk0 BK626⟩, ⟨by exact zk0 BK634⟩, ⟨by exact zk0 BK641⟩, ⟨by exact zk0 BK648⟩, ⟨by exact zk0 BK655⟩, ⟨by exact zb0 HB⟩⟩
       ·replace c66 := Bool.eq_false_iff.mpr c66
        subst c66
        have H1 : (imageeditorlaw24_WandRegions.j2 kj17 t633 t640 t647 t654 a3 a0_0 a0_1 l0_2 a1_0 a1_1 a2_0 a2_1 t628 t629 t630 t635 t636 t637 t642 t643 t644 t649 t650 t651) = some r := by rw [if_neg (show ¬ (false = true) by decide)] at H; exact H
        clear H
        have H := H1
        clear H1
        as_aux_lemma =>
         have H' := Aside0.mk H
         clear H
         go_wp2
         go_meet
         case rel => exact ⟨_, (a3), (by first | rfl | (simp; done) | (simp [*]; done)), H', ⟨by have := HJ5.out; have := HJ17.out; first | omega | exact Nat.le_refl _⟩, ⟨by exact zr0 HO_635002⟩, ⟨by exact zr0 HO_642002⟩, ⟨by exact zr0 HO_649002⟩, ⟨by exact zr0 HO_656002⟩, ⟨by exact zk0 BK624⟩, ⟨by exact zk0 BK625⟩, ⟨by exact zk0 BK626⟩, ⟨by exact zk0 BK634⟩, ⟨by exact zk0 BK641⟩, ⟨by exact zk0 BK648⟩, ⟨by exact zk0 BK655⟩, ⟨by exact zb0 HB⟩⟩
      case rest =>
       clear HC65
       try clear c1
       try clear c2
       try clear p2
       try clear q2
       try clear c3
       try clear q3
       try clear c4
       try clear c5
       try clear c6
       try clear p6
       try clear c9
       try clear c10
       try clear c10b0
       try clear c11
       try clear c12
       try clear c19
       try clear c20
       try clear c22
       try clear c26
       try clear c27
       try clear c28
       try clear c35
       try clear c36
       try clear c37
       try clear c38
       try clear c45
       try clear c46
       try clear c47
       try clear c48
       try clear c49
       try clear c56
       try clear c57
       try clear c58
       try clear c59
       try clear c60
       try clear c61
       try clear c64
       try clear c64b0
       try clear p64
       try clear c66
       try clear hcz21_0
       try clear hcz21_1
       try clear hcz21_2
       try clear hcz23_0
       try clear hcz23_1
       try clear hcz29_0
       try clear hcz29_1
       try clear hcz29_2
       try clear hcz31_0
       try clear hcz31_1
       try clear hcz31_2
       try clear hcz32_0
       try clear hcz32_1
       try clear hcz39_0
       try clear hcz39_1
       try clear hcz39_2
       try clear hcz41_0
       try clear hcz41_1
       try clear hcz41_2
       try clear hcz42_0
       try clear hcz42_1
       try clear hcz50_0
       try clear hcz50_1
       try clear hcz50_2
       try clear hcz52_0
       try clear hcz52_1
       try clear hcz52_2
       try clear hcz53_0
       try clear hcz53_1
       try clear hcz62_0
       try clear hcz62_1
       try clear hcz62_2
       try clear hfz21_0
       try clear hfz21_1
       try clear hfz21_2
       try clear hfz23_0
       try clear hfz23_1
       try clear hfz29_0
       try clear hfz29_1
       try clear hfz29_2
       try clear hfz31_0
       try clear hfz31_1
       try clear hfz31_2
       try clear hfz32_0
       try clear hfz32_1
       try clear hfz39_0
       try clear hfz39_1
       try clear hfz39_2
       try clear hfz41_0
       try clear hfz41_1
       try clear hfz41_2
       try clear hfz42_0
       try clear hfz42_1
       try clear hfz50_0
       try clear hfz50_1
       try clear hfz50_2
       try clear hfz52_0
       try clear hfz52_1
       try clear hfz52_2
       try clear hfz53_0
       try clear hfz53_1
       try clear hfz62_0
       try clear hfz62_1
       try clear hfz62_2
       try clear p2
       try clear p6
       try clear p64
       try clear q2
       try clear q3
       obtain ⟨kq, x19_64, rfl, HA, HJ64, HO_635002, HO_642002, HO_649002, HO_656002, BK624, BK625, BK626, BK634, BK641, BK648, BK655, HB⟩ := hcut
       cases kq with
       | zero => exact absurd HA.out (by simp [imageeditorlaw24_WandRegions.j2])
       | succ kj64 =>
        have H := HA.out
        clear HA
        simp only [imageeditorlaw24_WandRegions.j2] at H
        replace H := Option.bind_eq_some_iff.mp H
        obtain ⟨⟨t656, t657, t658, t661⟩, A670, H⟩ := H
        replace H : (if t633 = 0 then (imageeditorlaw24_WandRegions.j3 kj64 t647 t654 t661 (t640 == 0) a0_0 a0_1 l0_2 a2_0 a2_1 t628 t629 t630 t635 t636 t637 t642 t643 t644 t649 t650 t651 t656 t657 t658) else (imageeditorlaw24_WandRegions.j3 kj64 t647 t654 t661 false a0_0 a0_1 l0_2 a2_0 a2_1 t628 t629 t630 t635 t636 t637 t642 t643 t644 t649 t650 t651 t656 t657 t658)) = some r := H
        have A67 := Aside0.mk A670
        clear A670
        have HC68 := Aside0.mk H
        clear H
        have hnb69 := NB624_625.out
        have hnc69 := NB625_624.out
        have hnb70 := NB624_626.out
        have hnc70 := NB626_624.out
        have hnb71 := NB624_634.out
        have hnc71 := NB634_624.out
        have hnb72 := NB624_641.out
        have hnc72 := NB641_624.out
        have hnb73 := NB624_648.out
        have hnc73 := NB648_624.out
        have hnb74 := NB624_655.out
        have hnc74 := NB655_624.out
        obtain ⟨hcz75_0, hcz75_1, hcz75_2, hfz75_0, hfz75_1, hfz75_2⟩ := zq3 BK624
        have hnb76 := NB625_626.out
        have hnc76 := NB626_625.out
        have hnb77 := NB625_634.out
        have hnc77 := NB634_625.out
        have hnb78 := NB625_641.out
        have hnc78 := NB641_625.out
        have hnb79 := NB625_648.out
        have hnc79 := NB648_625.out
        have hnb80 := NB625_655.out
        have hnc80 := NB655_625.out
        obtain ⟨hcz81_0, hcz81_1, hfz81_0, hfz81_1⟩ := zq2 BK625
        (try clear BK625)
        go_upto_region 11 with (first | ((with_reducible refine gate_callee (f := 9) rfl ?_); refine goesL_ (some 72) rfl rfl Try.func9 (by kernel_rfl) rfl #[.agg #[.int .i64 a0_0, .int .i64 a0_1, .slice A0_2 l0_2.length c0_2], .agg #[.int .i64 a1_0, .int .i64 a1_1], .int .i64 x19_64, .bool false] rfl (by (try simp only [List.map_toArray, List.map_cons, List.map_nil]); first | done | rfl | (simp only [List.length_drop, List.length_take]; rfl)) ?_; (with_reducible refine (wand_Flood.calls kj64 a0_0 a0_1 _ _ l0_2 a1_0 a1_1 x19_64 false t656 t657 t658 t661 _ ?side1 ?side2 A67.out).mono ?_); (case side1 => repeat (first | exact (Kd.C_below HR0_2.out HB.out) | (with_reducible refine Kd.C_alloc ?_ _) | (with_reducible refine Kd.C_drewN ?_ _) | (with_reducible refine Kd.C_drew ?_))); (case side2 => exact HC0_2.out); rintro e w82 ⟨v659, rfl, ho0, hb⟩; refine ⟨_, rfl, ?_⟩; have HO660 := zl HB ho0; replace HO_635002 := zr HO_635002 hb; replace HO_642002 := zr HO_642002 hb; replace HO_649002 := zr HO_649002 hb; replace HO_656002 := zr HO_656002 hb; replace BK624 := zk BK624 hb; replace BK626 := zk BK626 hb; replace BK634 := zk BK634 hb; replace BK641 := zk BK641 hb; replace BK648 := zk BK648 hb; replace BK655 := zk BK655 hb; replace HB := zb HB hb; (try clear hb); (try clear hb2); (try clear hk); (try clear hi); (try clear ho0)) | ((with_reducible refine gate_dst (N := 20) rfl ?_); (try (refine gate_guard (by rfl) ?_; dsimp only)); refine box_event ?hg (N := 20) ?hd (cs := #[.int .i64 0, .int .i64 0, .slice none 0 0]) (t := 29) ?hr ?_; (case hd => rfl); (case hg => rfl); (case hr => first | (go_simp; done) | (go_simp; rfl)); intro gb662 hg w83 hbox hb; have GW662 := zg HB hg; have GE662 := zg HB hg; have NB624_662 := zn BK624 hg; have NB662_624 := zn' BK624 hg; have NB626_662 := zn BK626 hg; have NB662_626 := zn' BK626 hg; have NB634_662 := zn BK634 hg; have NB662_634 := zn' BK634 hg; have NB641_662 := zn BK641 hg; have NB662_641 := zn' BK641 hg; have NB648_662 := zn BK648 hg; have NB662_648 := zn' BK648 hg; have NB655_662 := zn BK655 hg; have NB662_655 := zn' BK655 hg; have n0_ := Aside0.mk (hbox); replace HO_635002 := zr HO_635002 hb; replace HO_642002 := zr HO_642002 hb; replace HO_649002 := zr HO_649002 hb; replace HO_656002 := zr HO_656002 hb; replace HO660 := zr HO660 hb; replace BK624 := zk BK624 hb; replace BK626 := zk BK626 hb; replace BK634 := zk BK634 hb; replace BK641 := zk BK641 hb; replace BK648 := zk BK648 hb; replace BK655 := zk BK655 hb; replace HB := zb HB hb; have BK662 := n0_; clear n0_; clear hb hbox hg; have hnb84 := NB662_624.out; have hnc84 := NB624_662.out; have hnb85 := NB662_626.out; have hnc85 := NB626_662.out; have hnb86 := NB662_634.out; have hnc86 := NB634_662.out; have hnb87 := NB662_641.out; have hnc87 := NB641_662.out; have hnb88 := NB662_648.out; have hnc88 := NB648_662.out; have hnb89 := NB662_655.out; have hnc89 := NB655_662.out; obtain ⟨hcz90_0, hcz90_1, hcz90_2, hfz90_0, hfz90_1, hfz90_2⟩ := zq3 BK662; obtain ⟨Ao91, co91, eo91⟩ := Kd.R_slice HO660.out; subst eo91))
        (try simp only [Act.put, sA, sB, sC])
        go_cut [80] (fun v80 wc => ∃ (kq : Nat) (x80_67 : Bool), v80 = .bool x80_67 ∧ Aside0 (imageeditorlaw24_WandRegions.j3 kq t647 t654 t661 x80_67 a0_0 a0_1 l0_2 a2_0 a2_1 t628 t629 t630 t635 t636 t637 t642 t643 t644 t649 t650 t651 t656 t657 t658 = some r) ∧ Aside0 (kq ≤ kj64) ∧ Aside0 (Kd.R (Kd.int .i64) 3 wc w.heap.size (fun _ => True) (.slice Ao30 t630.length co30) t630) ∧ Aside0 (Kd.R (Kd.int .i64) 3 wc w.heap.size (fun _ => True) (.slice Ao40 t637.length co40) t637) ∧ Aside0 (Kd.R (Kd.int .i64) 3 wc w.heap.size (fun _ => True) (.slice Ao51 t644.length co51) t644) ∧ Aside0 (Kd.R (Kd.int .i64) 3 wc w.heap.size (fun _ => True) (.slice Ao63 t651.length co63) t651) ∧ Aside0 (Kd.R (Kd.int .i64) 3 wc w.heap.size (fun _ => True) (.slice Ao91 t658.length co91) t658) ∧ Aside0 (wc.heap[gb624]? = some (.cells #[.int .i64 a0_0, .int .i64 a0_1, (.slice A0_2 l0_2.length c0_2)] 24 (0, 0))) ∧ Aside0 (wc.heap[gb626]? = some (.cells #[.int .i64 a2_0, .int .i64 a2_1] 26 (0, 0))) ∧ Aside0 (wc.heap[gb634]? = some (.cells #[.int .i64 t628, .int .i64 t629, (.slice Ao30 t630.length co30)] 29 (0, 0))) ∧ Aside0 (wc.heap[gb641]? = some (.cells #[.int .i64 t635, .int .i64 t636, (.slice Ao40 t637.length co40)] 29 (0, 0))) ∧ Aside0 (wc.heap[gb648]? = some (.cells #[.int .i64 t642, .int .i64 t643, (.slice Ao51 t644.length co51)] 29 (0, 0))) ∧ Aside0 (wc.heap[gb655]? = some (.cells #[.int .i64 t649, .int .i64 t650, (.slice Ao63 t651.length co63)] 29 (0, 0))) ∧ Aside0 (wc.heap[gb662]? = some (.cells #[.int .i64 t656, .int .i64 t657, (.slice Ao91 t658.length co91)] 29 (0, 0))) ∧ Aside0 (Below w.heap.size w wc))
        case first =>
         have H := HC68.out
         clear HC68
         by_cases c92 : t633 = 0
         ·rw [if_pos c92] at H
          have c92b0 : (t633 == 0) = true := beq_iff_eq.mpr c92
          have c92b1 : (t633 != 0) = false := bne_eq_false_iff_eq.mpr c92
          clear c92
          (first | rw [c92b0] | (simp only [i64_w, i32_w]; rw [c92b0]) | skip)
          as_aux_lemma =>
           have H' := Aside0.mk H
           clear H
           go_wp2
           go_meet
           case rel => exact ⟨_, ((t640 == 0)), (by first | rfl | (simp; done) | (simp [*]; done)), H', ⟨by have := HJ5.out; have := HJ17.out; have := HJ64.out; first | omega | exact Nat.le_refl _⟩, ⟨by exact zro HO_635002 BK662 (by decide)⟩, ⟨by exact zro HO_642002 BK662 (by decide)⟩, ⟨by exact zro HO_649002 BK662 (by decide)⟩, ⟨by exact zro HO_656002 BK662 (by decide)⟩, ⟨by exact zro HO660 BK662 (by decide)⟩, ⟨by exact zf BK624 NB624_662⟩, ⟨by exact zf BK626 NB626_662⟩, ⟨by exact zf BK634 NB634_662⟩, ⟨by exact zf BK641 NB641_662⟩, ⟨by exact zf BK648 NB648_662⟩, ⟨by exact zf BK655 NB655_662⟩, ⟨by exact zp BK662 rfl⟩, ⟨by exact zbo HB GE662⟩⟩
         ·rw [if_neg c92] at H
          have c92b0 : (t633 == 0) = false := beq_eq_false_iff_ne.mpr c92
          have c92b1 : (t633 != 0) = true := bne_iff_ne.mpr c92
          (first | rw [c92b0] | (simp only [i64_w, i32_w]; rw [c92b0]) | skip)
          as_aux_lemma =>
           have H' := Aside0.mk H
           clear H
           go_wp2
           go_meet
           case rel => exact ⟨_, (false), (by first | rfl | (simp; done) | (simp [*]; done)), H', ⟨by have := HJ5.out; have := HJ17.out; have := HJ64.out; first | omega | exact Nat.le_refl _⟩, ⟨by exact zro HO_635002 BK662 (by decide)⟩, ⟨by exact zro HO_642002 BK662 (by decide)⟩, ⟨by exact zro HO_649002 BK662 (by decide)⟩, ⟨by exact zro HO_656002 BK662 (by decide)⟩, ⟨by exact zro HO660 BK662 (by decide)⟩, ⟨by exact zf BK624 NB624_662⟩, ⟨by exact zf BK626 NB626_662⟩, ⟨by exact zf BK634 NB634_662⟩, ⟨by exact zf BK641 NB641_662⟩, ⟨by exact zf BK648 NB648_662⟩, ⟨by exact zf BK655 NB655_662⟩, ⟨by exact zp BK662 rfl⟩, ⟨by exact zbo HB GE662⟩⟩
        case rest =>
         clear HC68
         try clear c1
         try clear c2
         try clear p2
         try clear q2
         try clear c3
         try clear q3
         try clear c4
         try clear c5
         try clear c6
         try clear p6
         try clear c7
         try clear c8
         try clear c9
         try clear c10
         try clear c10b0
         try clear c11
         try clear c12
         try clear c19
         try clear c20
         try clear c22
         try clear c26
         try clear c27
         try clear c28
         try clear c35
         try clear c36
         try clear c37
         try clear c38
         try clear c45
         try clear c46
         try clear c47
         try clear c48
         try clear c49
         try clear c56
         try clear c57
         try clear c58
         try clear c59
         try clear c60
         try clear c61
         try clear c64
         try clear c64b0
         try clear p64
         try clear c66
         try clear c69
         try clear c70
         try clear c71
         try clear c72
         try clear c73
         try clear c74
         try clear c76
         try clear c77
         try clear c78
         try clear c79
         try clear c80
         try clear c84
         try clear c85
         try clear c86
         try clear c87
         try clear c88
         try clear c89
         try clear c92
         try clear c92b0
         try clear c92b1
         try clear hcz21_0
         try clear hcz21_1
         try clear hcz21_2
         try clear hcz23_0
         try clear hcz23_1
         try clear hcz29_0
         try clear hcz29_1
         try clear hcz29_2
         try clear hcz31_0
         try clear hcz31_1
         try clear hcz31_2
         try clear hcz32_0
         try clear hcz32_1
         try clear hcz39_0
         try clear hcz39_1
         try clear hcz39_2
         try clear hcz41_0
         try clear hcz41_1
         try clear hcz41_2
         try clear hcz42_0
         try clear hcz42_1
         try clear hcz50_0
         try clear hcz50_1
         try clear hcz50_2
         try clear hcz52_0
         try clear hcz52_1
         try clear hcz52_2
         try clear hcz53_0
         try clear hcz53_1
         try clear hcz62_0
         try clear hcz62_1
         try clear hcz62_2
         try clear hcz75_0
         try clear hcz75_1
         try clear hcz75_2
         try clear hcz81_0
         try clear hcz81_1
         try clear hcz90_0
         try clear hcz90_1
         try clear hcz90_2
         try clear hfz21_0
         try clear hfz21_1
         try clear hfz21_2
         try clear hfz23_0
         try clear hfz23_1
         try clear hfz29_0
         try clear hfz29_1
         try clear hfz29_2
         try clear hfz31_0
         try clear hfz31_1
         try clear hfz31_2
         try clear hfz32_0
         try clear hfz32_1
         try clear hfz39_0
         try clear hfz39_1
         try clear hfz39_2
         try clear hfz41_0
         try clear hfz41_1
         try clear hfz41_2
         try clear hfz42_0
         try clear hfz42_1
         try clear hfz50_0
         try clear hfz50_1
         try clear hfz50_2
         try clear hfz52_0
         try clear hfz52_1
         try clear hfz52_2
         try clear hfz53_0
         try clear hfz53_1
         try clear hfz62_0
         try clear hfz62_1
         try clear hfz62_2
         try clear hfz75_0
         try clear hfz75_1
         try clear hfz75_2
         try clear hfz81_0
         try clear hfz81_1
         try clear hfz90_0
         try clear hfz90_1
         try clear hfz90_2
         try clear p2
         try clear p6
         try clear p64
         try clear q2
         try clear q3
         obtain ⟨kq, x80_67, rfl, HA, HJ67, HO_635002, HO_642002, HO_649002, HO_656002, HO_663002, BK624, BK626, BK634, BK641, BK648, BK655, BK662, HB⟩ := hcut
         cases kq with
         | zero => exact absurd HA.out (by simp [imageeditorlaw24_WandRegions.j3])
         | succ kj67 =>
          have H := HA.out
          clear HA
          simp only [imageeditorlaw24_WandRegions.j3] at H
          have HC93 := Aside0.mk H
          clear H
          go_upto_if 80 with (fail)
          go_cut [] (fun wc => ∃ (kq : Nat), Aside0 (imageeditorlaw24_WandRegions.j5 kq t647 t654 t661 t642 t643 t644 t649 t650 t651 t656 t657 t658 = some r) ∧ Aside0 (kq ≤ kj67) ∧ Aside0 (Kd.R (Kd.int .i64) 3 wc w.heap.size (fun _ => True) (.slice Ao30 t630.length co30) t630) ∧ Aside0 (Kd.R (Kd.int .i64) 3 wc w.heap.size (fun _ => True) (.slice Ao40 t637.length co40) t637) ∧ Aside0 (Kd.R (Kd.int .i64) 3 wc w.heap.size (fun _ => True) (.slice Ao51 t644.length co51) t644) ∧ Aside0 (Kd.R (Kd.int .i64) 3 wc w.heap.size (fun _ => True) (.slice Ao63 t651.length co63) t651) ∧ Aside0 (Kd.R (Kd.int .i64) 3 wc w.heap.size (fun _ => True) (.slice Ao91 t658.length co91) t658) ∧ Aside0 (wc.heap[gb624]? = some (.cells #[.int .i64 a0_0, .int .i64 a0_1, (.slice A0_2 l0_2.length c0_2)] 24 (0, 0))) ∧ Aside0 (wc.heap[gb626]? = some (.cells #[.int .i64 a2_0, .int .i64 a2_1] 26 (0, 0))) ∧ Aside0 (wc.heap[gb634]? = some (.cells #[.int .i64 t628, .int .i64 t629, (.slice Ao30 t630.length co30)] 29 (0, 0))) ∧ Aside0 (wc.heap[gb641]? = some (.cells #[.int .i64 t635, .int .i64 t636, (.slice Ao40 t637.length co40)] 29 (0, 0))) ∧ Aside0 (wc.heap[gb648]? = some (.cells #[.int .i64 t642, .int .i64 t643, (.slice Ao51 t644.length co51)] 29 (0, 0))) ∧ Aside0 (wc.heap[gb655]? = some (.cells #[.int .i64 t649, .int .i64 t650, (.slice Ao63 t651.length co63)] 29 (0, 0))) ∧ Aside0 (wc.heap[gb662]? = some (.cells #[.int .i64 t656, .int .i64 t657, (.slice Ao91 t658.length co91)] 29 (0, 0))) ∧ Aside0 (Below w.heap.size w wc))
          case first =>
           have H := HC93.out
           clear HC93
           by_cases c94 : x80_67 = true
           ·subst c94
            have H1 : (if (t630.length : Int) = (t637.length : Int) then (if (t630.length : Int) = (l0_2.length : Int) then ((imageeditorref11_Check.f kj67 a0_0 a0_1 l0_2).bind fun t663 => (if t663 = 0 then (if a2_0 < 0 then (imageeditorlaw24_WandRegions.j4 kj67 t647 t654 t661 true a0_0 a0_1 l0_2 a2_0 a2_1 t628 t629 t630 t635 t636 t637 t642 t643 t644 t649 t650 t651 t656 t657 t658) else (if a2_0 ≥ a0_0 then (imageeditorlaw24_WandRegions.j4 kj67 t647 t654 t661 true a0_0 a0_1 l0_2 a2_0 a2_1 t628 t629 t630 t635 t636 t637 t642 t643 t644 t649 t650 t651 t656 t657 t658) else (if a2_1 < 0 then (imageeditorlaw24_WandRegions.j4 kj67 t647 t654 t661 true a0_0 a0_1 l0_2 a2_0 a2_1 t628 t629 t630 t635 t636 t637 t642 t643 t644 t649 t650 t651 t656 t657 t658) else (imageeditorlaw24_WandRegions.j4 kj67 t647 t654 t661 (decide (a2_1 ≥ a0_1)) a0_0 a0_1 l0_2 a2_0 a2_1 t628 t629 t630 t635 t636 t637 t642 t643 t644 t649 t650 t651 t656 t657 t658)))) else (imageeditorlaw24_WandRegions.j4 kj67 t647 t654 t661 true a0_0 a0_1 l0_2 a2_0 a2_1 t628 t629 t630 t635 t636 t637 t642 t643 t644 t649 t650 t651 t656 t657 t658))) else (imageeditorlaw24_WandRegions.j4 kj67 t647 t654 t661 true a0_0 a0_1 l0_2 a2_0 a2_1 t628 t629 t630 t635 t636 t637 t642 t643 t644 t649 t650 t651 t656 t657 t658)) else (imageeditorlaw24_WandRegions.j4 kj67 t647 t654 t661 true a0_0 a0_1 l0_2 a2_0 a2_1 t628 t629 t630 t635 t636 t637 t642 t643 t644 t649 t650 t651 t656 t657 t658)) = some r := by rw [if_pos rfl] at H; exact H
            clear H
            have H := H1
            clear H1
            have HC95 := Aside0.mk H
            clear H
            go_upto_region 12 with (fail)
            go_cut [125] (fun v125 wc => ∃ (kq : Nat) (x125_94 : Bool), v125 = .bool x125_94 ∧ Aside0 (imageeditorlaw24_WandRegions.j4 kq t647 t654 t661 x125_94 a0_0 a0_1 l0_2 a2_0 a2_1 t628 t629 t630 t635 t636 t637 t642 t643 t644 t649 t650 t651 t656 t657 t658 = some r) ∧ Aside0 (kq ≤ kj67) ∧ Aside0 (Kd.R (Kd.int .i64) 3 wc w.heap.size (fun _ => True) (.slice Ao30 t630.length co30) t630) ∧ Aside0 (Kd.R (Kd.int .i64) 3 wc w.heap.size (fun _ => True) (.slice Ao40 t637.length co40) t637) ∧ Aside0 (Kd.R (Kd.int .i64) 3 wc w.heap.size (fun _ => True) (.slice Ao51 t644.length co51) t644) ∧ Aside0 (Kd.R (Kd.int .i64) 3 wc w.heap.size (fun _ => True) (.slice Ao63 t651.length co63) t651) ∧ Aside0 (Kd.R (Kd.int .i64) 3 wc w.heap.size (fun _ => True) (.slice Ao91 t658.length co91) t658) ∧ Aside0 (wc.heap[gb624]? = some (.cells #[.int .i64 a0_0, .int .i64 a0_1, (.slice A0_2 l0_2.length c0_2)] 24 (0, 0))) ∧ Aside0 (wc.heap[gb626]? = some (.cells #[.int .i64 a2_0, .int .i64 a2_1] 26 (0, 0))) ∧ Aside0 (wc.heap[gb634]? = some (.cells #[.int .i64 t628, .int .i64 t629, (.slice Ao30 t630.length co30)] 29 (0, 0))) ∧ Aside0 (wc.heap[gb641]? = some (.cells #[.int .i64 t635, .int .i64 t636, (.slice Ao40 t637.length co40)] 29 (0, 0))) ∧ Aside0 (wc.heap[gb648]? = some (.cells #[.int .i64 t642, .int .i64 t643, (.slice Ao51 t644.length co51)] 29 (0, 0))) ∧ Aside0 (wc.heap[gb655]? = some (.cells #[.int .i64 t649, .int .i64 t650, (.slice Ao63 t651.length co63)] 29 (0, 0))) ∧ Aside0 (wc.heap[gb662]? = some (.cells #[.int .i64 t656, .int .i64 t657, (.slice Ao91 t658.length co91)] 29 (0, 0))) ∧ Aside0 (Below w.heap.size w wc))
            case first =>
             have H := HC95.out
             clear HC95
             by_cases c96 : (t630.length : Int) = (t637.length : Int)
             ·rw [if_pos c96] at H
              have c96b0 : ((t630.length : Int) == (t637.length : Int)) = true := beq_iff_eq.mpr c96
              have c96b1 : ((t630.length : Int) != (t637.length : Int)) = false := bne_eq_false_iff_eq.mpr c96
              have c96b2 : (t630.length == t637.length) = true := by first | simpa using c96 | (simp at c96 ⊢; omega)
              clear c96
              (first | rw [c96b0] | (simp only [i64_w, i32_w]; rw [c96b0]) | skip)
              by_cases c97 : (t630.length : Int) = (l0_2.length : Int)
              ·rw [if_pos c97] at H
               have c97b0 : ((t630.length : Int) == (l0_2.length : Int)) = true := beq_iff_eq.mpr c97
               have c97b1 : ((t630.length : Int) != (l0_2.length : Int)) = false := bne_eq_false_iff_eq.mpr c97
               have c97b2 : (t630.length == l0_2.length) = true := by first | simpa using c97 | (simp at c97 ⊢; omega)
               clear c97
               replace H := Option.bind_eq_some_iff.mp H
               obtain ⟨t663, A980, H⟩ := H
               replace H : (if t663 = 0 then (if a2_0 < 0 then (imageeditorlaw24_WandRegions.j4 kj67 t647 t654 t661 true a0_0 a0_1 l0_2 a2_0 a2_1 t628 t629 t630 t635 t636 t637 t642 t643 t644 t649 t650 t651 t656 t657 t658) else (if a2_0 ≥ a0_0 then (imageeditorlaw24_WandRegions.j4 kj67 t647 t654 t661 true a0_0 a0_1 l0_2 a2_0 a2_1 t628 t629 t630 t635 t636 t637 t642 t643 t644 t649 t650 t651 t656 t657 t658) else (if a2_1 < 0 then (imageeditorlaw24_WandRegions.j4 kj67 t647 t654 t661 true a0_0 a0_1 l0_2 a2_0 a2_1 t628 t629 t630 t635 t636 t637 t642 t643 t644 t649 t650 t651 t656 t657 t658) else (imageeditorlaw24_WandRegions.j4 kj67 t647 t654 t661 (decide (a2_1 ≥ a0_1)) a0_0 a0_1 l0_2 a2_0 a2_1 t628 t629 t630 t635 t636 t637 t642 t643 t644 t649 t650 t651 t656 t657 t658)))) else (imageeditorlaw24_WandRegions.j4 kj67 t647 t654 t661 true a0_0 a0_1 l0_2 a2_0 a2_1 t628 t629 t630 t635 t636 t637 t642 t643 t644 t649 t650 t651 t656 t657 t658)) = some r := H
               have A98 := Aside0.mk A980
               clear A980
               by_cases c99 : t663 = 0
               ·rw [if_pos c99] at H
                have c99b0 : (t663 == 0) = true := beq_iff_eq.mpr c99
                have c99b1 : (t663 != 0) = false := bne_eq_false_iff_eq.mpr c99
                clear c99
                by_cases c100 : a2_0 < 0
                ·rw [if_pos c100] at H
                 have c100b0 : decide (a2_0 < 0) = true := decide_eq_true c100
                 clear c100
                 as_aux_lemma =>
                  have H' := Aside0.mk H
                  clear H
                  obtain ⟨hcz101_0, hcz101_1, hcz101_2, hfz101_0, hfz101_1, hfz101_2⟩ := zq3 BK634
                  obtain ⟨hcz102_0, hcz102_1, hcz102_2, hfz102_0, hfz102_1, hfz102_2⟩ := zq3 BK641
                  obtain ⟨hcz103_0, hcz103_1, hcz103_2, hfz103_0, hfz103_1, hfz103_2⟩ := zq3 BK624
                  go_wp2_with (first | (go_at_call 19; (with_reducible refine (imageeditorref11_Check.calls kj67 a0_0 a0_1 _ _ l0_2 t663 _ ?side1 ?side2 A98.out).mono ?_); (case side1 => repeat (first | exact (Kd.C_below HR0_2.out HB.out) | (with_reducible refine Kd.C_alloc ?_ _) | (with_reducible refine Kd.C_drewN ?_ _) | (with_reducible refine Kd.C_drew ?_))); (case side2 => exact HC0_2.out); rintro e w104 ⟨rfl, hb⟩; replace HO_635002 := zr HO_635002 hb; replace HO_642002 := zr HO_642002 hb; replace HO_649002 := zr HO_649002 hb; replace HO_656002 := zr HO_656002 hb; replace HO_663002 := zr HO_663002 hb; replace BK624 := zk BK624 hb; replace BK626 := zk BK626 hb; replace BK634 := zk BK634 hb; replace BK641 := zk BK641 hb; replace BK648 := zk BK648 hb; replace BK655 := zk BK655 hb; replace BK662 := zk BK662 hb; replace HB := zb HB hb; (try clear hb); (try clear hb2); (try clear hk); (try clear hi); obtain ⟨hcz105_0, hcz105_1, hfz105_0, hfz105_1⟩ := zq2 BK626))
                  go_meet
                  case rel => exact ⟨_, (true), (by first | rfl | (simp; done) | (simp [*]; done)), H', ⟨by have := HJ5.out; have := HJ17.out; have := HJ64.out; have := HJ67.out; first | omega | exact Nat.le_refl _⟩, ⟨by exact zr0 HO_635002⟩, ⟨by exact zr0 HO_642002⟩, ⟨by exact zr0 HO_649002⟩, ⟨by exact zr0 HO_656002⟩, ⟨by exact zr0 HO_663002⟩, ⟨by exact zk0 BK624⟩, ⟨by exact zk0 BK626⟩, ⟨by exact zk0 BK634⟩, ⟨by exact zk0 BK641⟩, ⟨by exact zk0 BK648⟩, ⟨by exact zk0 BK655⟩, ⟨by exact zk0 BK662⟩, ⟨by exact zb0 HB⟩⟩
                ·rw [if_neg c100] at H
                 have c100b0 : decide (a2_0 < 0) = false := decide_eq_false c100
                 clear c100
                 by_cases c106 : a2_0 ≥ a0_0
                 ·rw [if_pos c106] at H
                  have c106b0 : decide (a0_0 ≤ a2_0) = true := decide_eq_true c106
                  clear c106
                  as_aux_lemma =>
                   have H' := Aside0.mk H
                   clear H
                   obtain ⟨hcz107_0, hcz107_1, hcz107_2, hfz107_0, hfz107_1, hfz107_2⟩ := zq3 BK634
                   obtain ⟨hcz108_0, hcz108_1, hcz108_2, hfz108_0, hfz108_1, hfz108_2⟩ := zq3 BK641
                   obtain ⟨hcz109_0, hcz109_1, hcz109_2, hfz109_0, hfz109_1, hfz109_2⟩ := zq3 BK624
                   go_wp2_with (first | (go_at_call 19; (with_reducible refine (imageeditorref11_Check.calls kj67 a0_0 a0_1 _ _ l0_2 t663 _ ?side1 ?side2 A98.out).mono ?_); (case side1 => repeat (first | exact (Kd.C_below HR0_2.out HB.out) | (with_reducible refine Kd.C_alloc ?_ _) | (with_reducible refine Kd.C_drewN ?_ _) | (with_reducible refine Kd.C_drew ?_))); (case side2 => exact HC0_2.out); rintro e w110 ⟨rfl, hb⟩; replace HO_635002 := zr HO_635002 hb; replace HO_642002 := zr HO_642002 hb; replace HO_649002 := zr HO_649002 hb; replace HO_656002 := zr HO_656002 hb; replace HO_663002 := zr HO_663002 hb; replace BK624 := zk BK624 hb; replace BK626 := zk BK626 hb; replace BK634 := zk BK634 hb; replace BK641 := zk BK641 hb; replace BK648 := zk BK648 hb; replace BK655 := zk BK655 hb; replace BK662 := zk BK662 hb; replace HB := zb HB hb; (try clear hb); (try clear hb2); (try clear hk); (try clear hi); obtain ⟨hcz111_0, hcz111_1, hfz111_0, hfz111_1⟩ := zq2 BK626; obtain ⟨hcz112_0, hcz112_1, hcz112_2, hfz112_0, hfz112_1, hfz112_2⟩ := zq3 BK624))
                   go_meet
                   case rel => exact ⟨_, (true), (by first | rfl | (simp; done) | (simp [*]; done)), H', ⟨by have := HJ5.out; have := HJ17.out; have := HJ64.out; have := HJ67.out; first | omega | exact Nat.le_refl _⟩, ⟨by exact zr0 HO_635002⟩, ⟨by exact zr0 HO_642002⟩, ⟨by exact zr0 HO_649002⟩, ⟨by exact zr0 HO_656002⟩, ⟨by exact zr0 HO_663002⟩, ⟨by exact zk0 BK624⟩, ⟨by exact zk0 BK626⟩, ⟨by exact zk0 BK634⟩, ⟨by exact zk0 BK641⟩, ⟨by exact zk0 BK648⟩, ⟨by exact zk0 BK655⟩, ⟨by exact zk0 BK662⟩, ⟨by exact zb0 HB⟩⟩
                 ·rw [if_neg c106] at H
                  have c106b0 : decide (a0_0 ≤ a2_0) = false := decide_eq_false c106
                  clear c106
                  by_cases c113 : a2_1 < 0
                  ·rw [if_pos c113] at H
                   have c113b0 : decide (a2_1 < 0) = true := decide_eq_true c113
                   clear c113
                   as_aux_lemma =>
                    have H' := Aside0.mk H
                    clear H
                    obtain ⟨hcz114_0, hcz114_1, hcz114_2, hfz114_0, hfz114_1, hfz114_2⟩ := zq3 BK634
                    obtain ⟨hcz115_0, hcz115_1, hcz115_2, hfz115_0, hfz115_1, hfz115_2⟩ := zq3 BK641
                    obtain ⟨hcz116_0, hcz116_1, hcz116_2, hfz116_0, hfz116_1, hfz116_2⟩ := zq3 BK624
                    go_wp2_with (first | (go_at_call 19; (with_reducible refine (imageeditorref11_Check.calls kj67 a0_0 a0_1 _ _ l0_2 t663 _ ?side1 ?side2 A98.out).mono ?_); (case side1 => repeat (first | exact (Kd.C_below HR0_2.out HB.out) | (with_reducible refine Kd.C_alloc ?_ _) | (with_reducible refine Kd.C_drewN ?_ _) | (with_reducible refine Kd.C_drew ?_))); (case side2 => exact HC0_2.out); rintro e w117 ⟨rfl, hb⟩; replace HO_635002 := zr HO_635002 hb; replace HO_642002 := zr HO_642002 hb; replace HO_649002 := zr HO_649002 hb; replace HO_656002 := zr HO_656002 hb; replace HO_663002 := zr HO_663002 hb; replace BK624 := zk BK624 hb; replace BK626 := zk BK626 hb; replace BK634 := zk BK634 hb; replace BK641 := zk BK641 hb; replace BK648 := zk BK648 hb; replace BK655 := zk BK655 hb; replace BK662 := zk BK662 hb; replace HB := zb HB hb; (try clear hb); (try clear hb2); (try clear hk); (try clear hi); obtain ⟨hcz118_0, hcz118_1, hfz118_0, hfz118_1⟩ := zq2 BK626; obtain ⟨hcz119_0, hcz119_1, hcz119_2, hfz119_0, hfz119_1, hfz119_2⟩ := zq3 BK624))
                    go_meet
                    case rel => exact ⟨_, (true), (by first | rfl | (simp; done) | (simp [*]; done)), H', ⟨by have := HJ5.out; have := HJ17.out; have := HJ64.out; have := HJ67.out; first | omega | exact Nat.le_refl _⟩, ⟨by exact zr0 HO_635002⟩, ⟨by exact zr0 HO_642002⟩, ⟨by exact zr0 HO_649002⟩, ⟨by exact zr0 HO_656002⟩, ⟨by exact zr0 HO_663002⟩, ⟨by exact zk0 BK624⟩, ⟨by exact zk0 BK626⟩, ⟨by exact zk0 BK634⟩, ⟨by exact zk0 BK641⟩, ⟨by exact zk0 BK648⟩, ⟨by exact zk0 BK655⟩, ⟨by exact zk0 BK662⟩, ⟨by exact zb0 HB⟩⟩
                  ·rw [if_neg c113] at H
                   have c113b0 : decide (a2_1 < 0) = false := decide_eq_false c113
                   clear c113
                   as_aux_lemma =>
                    have H' := Aside0.mk H
                    clear H
                    obtain ⟨hcz120_0, hcz120_1, hcz120_2, hfz120_0, hfz120_1, hfz120_2⟩ := zq3 BK634
                    obtain ⟨hcz121_0, hcz121_1, hcz121_2, hfz121_0, hfz121_1, hfz121_2⟩ := zq3 BK641
                    obtain ⟨hcz122_0, hcz122_1, hcz122_2, hfz122_0, hfz122_1, hfz122_2⟩ := zq3 BK624
                    go_wp2_with (first | (go_at_call 19; (with_reducible refine (imageeditorref11_Check.calls kj67 a0_0 a0_1 _ _ l0_2 t663 _ ?side1 ?side2 A98.out).mono ?_); (case side1 => repeat (first | exact (Kd.C_below HR0_2.out HB.out) | (with_reducible refine Kd.C_alloc ?_ _) | (with_reducible refine Kd.C_drewN ?_ _) | (with_reducible refine Kd.C_drew ?_))); (case side2 => exact HC0_2.out); rintro e w123 ⟨rfl, hb⟩; replace HO_635002 := zr HO_635002 hb; replace HO_642002 := zr HO_642002 hb; replace HO_649002 := zr HO_649002 hb; replace HO_656002 := zr HO_656002 hb; replace HO_663002 := zr HO_663002 hb; replace BK624 := zk BK624 hb; replace BK626 := zk BK626 hb; replace BK634 := zk BK634 hb; replace BK641 := zk BK641 hb; replace BK648 := zk BK648 hb; replace BK655 := zk BK655 hb; replace BK662 := zk BK662 hb; replace HB := zb HB hb; (try clear hb); (try clear hb2); (try clear hk); (try clear hi); obtain ⟨hcz124_0, hcz124_1, hfz124_0, hfz124_1⟩ := zq2 BK626; obtain ⟨hcz125_0, hcz125_1, hcz125_2, hfz125_0, hfz125_1, hfz125_2⟩ := zq3 BK624))
                    go_meet
                    case rel => exact ⟨_, (decide (a2_1 ≥ a0_1)), (by first | rfl | (simp; done) | (simp [*]; done)), H', ⟨by have := HJ5.out; have := HJ17.out; have := HJ64.out; have := HJ67.out; first | omega | exact Nat.le_refl _⟩, ⟨by exact zr0 HO_635002⟩, ⟨by exact zr0 HO_642002⟩, ⟨by exact zr0 HO_649002⟩, ⟨by exact zr0 HO_656002⟩, ⟨by exact zr0 HO_663002⟩, ⟨by exact zk0 BK624⟩, ⟨by exact zk0 BK626⟩, ⟨by exact zk0 BK634⟩, ⟨by exact zk0 BK641⟩, ⟨by exact zk0 BK648⟩, ⟨by exact zk0 BK655⟩, ⟨by exact zk0 BK662⟩, ⟨by exact zb0 HB⟩⟩
               ·rw [if_neg c99] at H
                have c99b0 : (t663 == 0) = false := beq_eq_false_iff_ne.mpr c99
                have c99b1 : (t663 != 0) = true := bne_iff_ne.mpr c99
                as_aux_lemma =>
                 have H' := Aside0.mk H
                 clear H
                 obtain ⟨hcz126_0, hcz126_1, hcz126_2, hfz126_0, hfz126_1, hfz126_2⟩ := zq3 BK634
                 obtain ⟨hcz127_0, hcz127_1, hcz127_2, hfz127_0, hfz127_1, hfz127_2⟩ := zq3 BK641
                 obtain ⟨hcz128_0, hcz128_1, hcz128_2, hfz128_0, hfz128_1, hfz128_2⟩ := zq3 BK624
                 go_wp2_with (first | (go_at_call 19; (with_reducible refine (imageeditorref11_Check.calls kj67 a0_0 a0_1 _ _ l0_2 t663 _ ?side1 ?side2 A98.out).mono ?_); (case side1 => repeat (first | exact (Kd.C_below HR0_2.out HB.out) | (with_reducible refine Kd.C_alloc ?_ _) | (with_reducible refine Kd.C_drewN ?_ _) | (with_reducible refine Kd.C_drew ?_))); (case side2 => exact HC0_2.out); rintro e w129 ⟨rfl, hb⟩; replace HO_635002 := zr HO_635002 hb; replace HO_642002 := zr HO_642002 hb; replace HO_649002 := zr HO_649002 hb; replace HO_656002 := zr HO_656002 hb; replace HO_663002 := zr HO_663002 hb; replace BK624 := zk BK624 hb; replace BK626 := zk BK626 hb; replace BK634 := zk BK634 hb; replace BK641 := zk BK641 hb; replace BK648 := zk BK648 hb; replace BK655 := zk BK655 hb; replace BK662 := zk BK662 hb; replace HB := zb HB hb; (try clear hb); (try clear hb2); (try clear hk); (try clear hi)))
                 go_meet
                 case rel => exact ⟨_, (true), (by first | rfl | (simp; done) | (simp [*]; done)), H', ⟨by have := HJ5.out; have := HJ17.out; have := HJ64.out; have := HJ67.out; first | omega | exact Nat.le_refl _⟩, ⟨by exact zr0 HO_635002⟩, ⟨by exact zr0 HO_642002⟩, ⟨by exact zr0 HO_649002⟩, ⟨by exact zr0 HO_656002⟩, ⟨by exact zr0 HO_663002⟩, ⟨by exact zk0 BK624⟩, ⟨by exact zk0 BK626⟩, ⟨by exact zk0 BK634⟩, ⟨by exact zk0 BK641⟩, ⟨by exact zk0 BK648⟩, ⟨by exact zk0 BK655⟩, ⟨by exact zk0 BK662⟩, ⟨by exact zb0 HB⟩⟩
              ·rw [if_neg c97] at H
               have c97b0 : ((t630.length : Int) == (l0_2.length : Int)) = false := beq_eq_false_iff_ne.mpr c97
               have c97b1 : ((t630.length : Int) != (l0_2.length : Int)) = true := bne_iff_ne.mpr c97
               have c97b2 : (t630.length == l0_2.length) = false := by first | simpa using c97 | (simp at c97 ⊢; omega)
               as_aux_lemma =>
                have H' := Aside0.mk H
                clear H
                obtain ⟨hcz130_0, hcz130_1, hcz130_2, hfz130_0, hfz130_1, hfz130_2⟩ := zq3 BK634
                obtain ⟨hcz131_0, hcz131_1, hcz131_2, hfz131_0, hfz131_1, hfz131_2⟩ := zq3 BK641
                obtain ⟨hcz132_0, hcz132_1, hcz132_2, hfz132_0, hfz132_1, hfz132_2⟩ := zq3 BK624
                go_wp2
                go_meet
                case rel => exact ⟨_, (true), (by first | rfl | (simp; done) | (simp [*]; done)), H', ⟨by have := HJ5.out; have := HJ17.out; have := HJ64.out; have := HJ67.out; first | omega | exact Nat.le_refl _⟩, ⟨by exact zr0 HO_635002⟩, ⟨by exact zr0 HO_642002⟩, ⟨by exact zr0 HO_649002⟩, ⟨by exact zr0 HO_656002⟩, ⟨by exact zr0 HO_663002⟩, ⟨by exact zk0 BK624⟩, ⟨by exact zk0 BK626⟩, ⟨by exact zk0 BK634⟩, ⟨by exact zk0 BK641⟩, ⟨by exact zk0 BK648⟩, ⟨by exact zk0 BK655⟩, ⟨by exact zk0 BK662⟩, ⟨by exact zb0 HB⟩⟩
             ·rw [if_neg c96] at H
              have c96b0 : ((t630.length : Int) == (t637.length : Int)) = false := beq_eq_false_iff_ne.mpr c96
              have c96b1 : ((t630.length : Int) != (t637.length : Int)) = true := bne_iff_ne.mpr c96
              have c96b2 : (t630.length == t637.length) = false := by first | simpa using c96 | (simp at c96 ⊢; omega)
              (first | rw [c96b0] | (simp only [i64_w, i32_w]; rw [c96b0]) | skip)
              as_aux_lemma =>
               have H' := Aside0.mk H
               clear H
               obtain ⟨hcz133_0, hcz133_1, hcz133_2, hfz133_0, hfz133_1, hfz133_2⟩ := zq3 BK634
               obtain ⟨hcz134_0, hcz134_1, hcz134_2, hfz134_0, hfz134_1, hfz134_2⟩ := zq3 BK641
               go_wp2
               go_meet
               case rel => exact ⟨_, (true), (by first | rfl | (simp; done) | (simp [*]; done)), H', ⟨by have := HJ5.out; have := HJ17.out; have := HJ64.out; have := HJ67.out; first | omega | exact Nat.le_refl _⟩, ⟨by exact zr0 HO_635002⟩, ⟨by exact zr0 HO_642002⟩, ⟨by exact zr0 HO_649002⟩, ⟨by exact zr0 HO_656002⟩, ⟨by exact zr0 HO_663002⟩, ⟨by exact zk0 BK624⟩, ⟨by exact zk0 BK626⟩, ⟨by exact zk0 BK634⟩, ⟨by exact zk0 BK641⟩, ⟨by exact zk0 BK648⟩, ⟨by exact zk0 BK655⟩, ⟨by exact zk0 BK662⟩, ⟨by exact zb0 HB⟩⟩
            case rest =>
             clear HC95
             try clear c1
             try clear c2
             try clear p2
             try clear q2
             try clear c3
             try clear q3
             try clear c4
             try clear c5
             try clear c6
             try clear p6
             try clear c7
             try clear c8
             try clear c9
             try clear c10
             try clear c10b0
             try clear c11
             try clear c12
             try clear c19
             try clear c20
             try clear c22
             try clear c26
             try clear c27
             try clear c28
             try clear c35
             try clear c36
             try clear c37
             try clear c38
             try clear c45
             try clear c46
             try clear c47
             try clear c48
             try clear c49
             try clear c56
             try clear c57
             try clear c58
             try clear c59
             try clear c60
             try clear c61
             try clear c64
             try clear c64b0
             try clear p64
             try clear c66
             try clear c69
             try clear c70
             try clear c71
             try clear c72
             try clear c73
             try clear c74
             try clear c76
             try clear c77
             try clear c78
             try clear c79
             try clear c80
             try clear c84
             try clear c85
             try clear c86
             try clear c87
             try clear c88
             try clear c89
             try clear c92
             try clear c92b0
             try clear c92b1
             try clear c94
             try clear c96
             try clear c96b0
             try clear c96b1
             try clear c96b2
             try clear c97
             try clear c97b0
             try clear c97b1
             try clear c97b2
             try clear c99
             try clear c99b0
             try clear c99b1
             try clear c100
             try clear c100b0
             try clear c106
             try clear c106b0
             try clear c113
             try clear c113b0
             try clear hcz101_0
             try clear hcz101_1
             try clear hcz101_2
             try clear hcz102_0
             try clear hcz102_1
             try clear hcz102_2
             try clear hcz103_0
             try clear hcz103_1
             try clear hcz103_2
             try clear hcz105_0
             try clear hcz105_1
             try clear hcz107_0
             try clear hcz107_1
             try clear hcz107_2
             try clear hcz108_0
             try clear hcz108_1
             try clear hcz108_2
             try clear hcz109_0
             try clear hcz109_1
             try clear hcz109_2
             try clear hcz111_0
             try clear hcz111_1
             try clear hcz112_0
             try clear hcz112_1
             try clear hcz112_2
             try clear hcz114_0
             try clear hcz114_1
             try clear hcz114_2
             try clear hcz115_0
             try clear hcz115_1
             try clear hcz115_2
             try clear hcz116_0
             try clear hcz116_1
             try clear hcz116_2
             try clear hcz118_0
             try clear hcz118_1
             try clear hcz119_0
             try clear hcz119_1
             try clear hcz119_2
             try clear hcz120_0
             try clear hcz120_1
             try clear hcz120_2
             try clear hcz121_0
             try clear hcz121_1
             try clear hcz121_2
             try clear hcz122_0
             try clear hcz122_1
             try clear hcz122_2
             try clear hcz124_0
             try clear hcz124_1
             try clear hcz125_0
             try clear hcz125_1
             try clear hcz125_2
             try clear hcz126_0
             try clear hcz126_1
             try clear hcz126_2
             try clear hcz127_0
             try clear hcz127_1
             try clear hcz127_2
             try clear hcz128_0
             try clear hcz128_1
             try clear hcz128_2
             try clear hcz130_0
             try clear hcz130_1
             try clear hcz130_2
             try clear hcz131_0
             try clear hcz131_1
             try clear hcz131_2
             try clear hcz132_0
             try clear hcz132_1
             try clear hcz132_2
             try clear hcz133_0
             try clear hcz133_1
             try clear hcz133_2
             try clear hcz134_0
             try clear hcz134_1
             try clear hcz134_2
             try clear hcz21_0
             try clear hcz21_1
             try clear hcz21_2
             try clear hcz23_0
             try clear hcz23_1
             try clear hcz29_0
             try clear hcz29_1
             try clear hcz29_2
             try clear hcz31_0
             try clear hcz31_1
             try clear hcz31_2
             try clear hcz32_0
             try clear hcz32_1
             try clear hcz39_0
             try clear hcz39_1
             try clear hcz39_2
             try clear hcz41_0
             try clear hcz41_1
             try clear hcz41_2
             try clear hcz42_0
             try clear hcz42_1
             try clear hcz50_0
             try clear hcz50_1
             try clear hcz50_2
             try clear hcz52_0
             try clear hcz52_1
             try clear hcz52_2
             try clear hcz53_0
             try clear hcz53_1
             try clear hcz62_0
             try clear hcz62_1
             try clear hcz62_2
             try clear hcz75_0
             try clear hcz75_1
             try clear hcz75_2
             try clear hcz81_0
             try clear hcz81_1
             try clear hcz90_0
             try clear hcz90_1
             try clear hcz90_2
             try clear hfz101_0
             try clear hfz101_1
             try clear hfz101_2
             try clear hfz102_0
             try clear hfz102_1
             try clear hfz102_2
             try clear hfz103_0
             try clear hfz103_1
             try clear hfz103_2
             try clear hfz105_0
             try clear hfz105_1
             try clear hfz107_0
             try clear hfz107_1
             try clear hfz107_2
             try clear hfz108_0
             try clear hfz108_1
             try clear hfz108_2
             try clear hfz109_0
             try clear hfz109_1
             try clear hfz109_2
             try clear hfz111_0
             try clear hfz111_1
             try clear hfz112_0
             try clear hfz112_1
             try clear hfz112_2
             try clear hfz114_0
             try clear hfz114_1
             try clear hfz114_2
             try clear hfz115_0
             try clear hfz115_1
             try clear hfz115_2
             try clear hfz116_0
             try clear hfz116_1
             try clear hfz116_2
             try clear hfz118_0
             try clear hfz118_1
             try clear hfz119_0
             try clear hfz119_1
             try clear hfz119_2
             try clear hfz120_0
             try clear hfz120_1
             try clear hfz120_2
             try clear hfz121_0
             try clear hfz121_1
             try clear hfz121_2
             try clear hfz122_0
             try clear hfz122_1
             try clear hfz122_2
             try clear hfz124_0
             try clear hfz124_1
             try clear hfz125_0
             try clear hfz125_1
             try clear hfz125_2
             try clear hfz126_0
             try clear hfz126_1
             try clear hfz126_2
             try clear hfz127_0
             try clear hfz127_1
             try clear hfz127_2
             try clear hfz128_0
             try clear hfz128_1
             try clear hfz128_2
             try clear hfz130_0
             try clear hfz130_1
             try clear hfz130_2
             try clear hfz131_0
             try clear hfz131_1
             try clear hfz131_2
             try clear hfz132_0
             try clear hfz132_1
             try clear hfz132_2
             try clear hfz133_0
             try clear hfz133_1
             try clear hfz133_2
             try clear hfz134_0
             try clear hfz134_1
             try clear hfz134_2
             try clear hfz21_0
             try clear hfz21_1
             try clear hfz21_2
             try clear hfz23_0
             try clear hfz23_1
             try clear hfz29_0
             try clear hfz29_1
             try clear hfz29_2
             try clear hfz31_0
             try clear hfz31_1
             try clear hfz31_2
             try clear hfz32_0
             try clear hfz32_1
             try clear hfz39_0
             try clear hfz39_1
             try clear hfz39_2
             try clear hfz41_0
             try clear hfz41_1
             try clear hfz41_2
             try clear hfz42_0
             try clear hfz42_1
             try clear hfz50_0
             try clear hfz50_1
             try clear hfz50_2
             try clear hfz52_0
             try clear hfz52_1
             try clear hfz52_2
             try clear hfz53_0
             try clear hfz53_1
             try clear hfz62_0
             try clear hfz62_1
             try clear hfz62_2
             try clear hfz75_0
             try clear hfz75_1
             try clear hfz75_2
             try clear hfz81_0
             try clear hfz81_1
             try clear hfz90_0
             try clear hfz90_1
             try clear hfz90_2
             try clear p2
             try clear p6
             try clear p64
             try clear q2
             try clear q3
             obtain ⟨kq, x125_94, rfl, HA, HJ94, HO_635002, HO_642002, HO_649002, HO_656002, HO_663002, BK624, BK626, BK634, BK641, BK648, BK655, BK662, HB⟩ := hcut
             cases kq with
             | zero => exact absurd HA.out (by simp [imageeditorlaw24_WandRegions.j4])
             | succ kj94 =>
              have H := HA.out
              clear HA
              simp only [imageeditorlaw24_WandRegions.j4] at H
              by_cases c135 : x125_94 = true
              ·subst c135
               have H1 : (some false) = some r := by rw [if_pos rfl] at H; exact H
               clear H
               have H := H1
               clear H1
               as_aux_lemma =>
                exact absurd HT.out (by rw [← Option.some.inj H]; decide)
              ·replace c135 := Bool.eq_false_iff.mpr c135
               subst c135
               have H1 : (if 0 ≤ (wrap64 ((wrap64 (a2_1 * a0_0)) + a2_0)) then (if (wrap64 ((wrap64 (a2_1 * a0_0)) + a2_0)) < (t630.length : Int) then (if (rd t630 (wrap64 ((wrap64 (a2_1 * a0_0)) + a2_0))) = 0 then (imageeditorlaw24_WandRegions.j5 kj94 t647 t654 t661 t642 t643 t644 t649 t650 t651 t656 t657 t658) else ((imageeditorlaw24_same.f kj94 t628 t629 t630 t635 t636 t637).bind fun t665 => (if t665 = true then (imageeditorlaw24_WandRegions.j5 kj94 t647 t654 t661 t642 t643 t644 t649 t650 t651 t656 t657 t658) else (some false)))) else (none)) else (none)) = some r := by rw [if_neg (show ¬ (false = true) by decide)] at H; exact H
               clear H
               have H := H1
               clear H1
               obtain ⟨ji136, hji136⟩ : ∃ j_ : Int, (wrap64 ((wrap64 (a2_1 * a0_0)) + a2_0)) = j_ := ⟨_, rfl⟩
               replace H : (if 0 ≤ (ji136) then (if (ji136) < (t630.length : Int) then (if (rd t630 (ji136)) = 0 then (imageeditorlaw24_WandRegions.j5 kj94 t647 t654 t661 t642 t643 t644 t649 t650 t651 t656 t657 t658) else ((imageeditorlaw24_same.f kj94 t628 t629 t630 t635 t636 t637).bind fun t665 => (if t665 = true then (imageeditorlaw24_WandRegions.j5 kj94 t647 t654 t661 t642 t643 t644 t649 t650 t651 t656 t657 t658) else (some false)))) else (none)) else (none)) = some r := by first | (rw [hji136] at H; exact H) | (simp only [hji136] at H ⊢; exact H)
               have hji136w : (IntKind.i64.wrap ((wrap64 (a2_1 * a0_0)) + a2_0)) = ji136 := (i64_w _).trans hji136
               by_cases c137 : 0 ≤ (ji136)
               ·rw [if_pos c137] at H
                have c137b0 : decide (0 ≤ (ji136)) = true := decide_eq_true c137
                clear c137
                by_cases c138 : (ji136) < (t630.length : Int)
                ·rw [if_pos c138] at H
                 have c138b0 : decide ((ji136) < (t630.length : Int)) = true := decide_eq_true c138
                 clear c138
                 by_cases c139 : (rd t630 (ji136)) = 0
                 ·rw [if_pos c139] at H
                  have c139b0 : ((rd t630 (ji136)) == 0) = true := beq_iff_eq.mpr c139
                  have c139b1 : ((rd t630 (ji136)) != 0) = false := bne_eq_false_iff_eq.mpr c139
                  clear c139
                  as_aux_lemma =>
                   have H' := Aside0.mk H
                   clear H
                   obtain ⟨hcz140_0, hcz140_1, hcz140_2, hfz140_0, hfz140_1, hfz140_2⟩ := zq3 BK634
                   obtain ⟨hcz141_0, hcz141_1, hfz141_0, hfz141_1⟩ := zq2 BK626
                   obtain ⟨hcz142_0, hcz142_1, hcz142_2, hfz142_0, hfz142_1, hfz142_2⟩ := zq3 BK624
                   have p664 : 0 ≤ ((ji136) : Int) := of_decide_eq_true (by first | (with_reducible assumption) | assumption)
                   have q664 : (ji136) < (t630.length : Int) := of_decide_eq_true (by first | (with_reducible assumption) | assumption)
                   obtain ⟨ad664, e664, hx664_0⟩ := Kd.at_int (Kd.R_reads' HO_635002.out).2.2 (ji136) p664 q664
                   cases e664
                   replace p664 := eq_true p664
                   replace q664 := eq_true q664
                   go_wp2
                   go_meet
                   case rel => exact ⟨_, H', ⟨by have := HJ5.out; have := HJ17.out; have := HJ64.out; have := HJ67.out; have := HJ94.out; first | omega | exact Nat.le_refl _⟩, ⟨by exact zr0 HO_635002⟩, ⟨by exact zr0 HO_642002⟩, ⟨by exact zr0 HO_649002⟩, ⟨by exact zr0 HO_656002⟩, ⟨by exact zr0 HO_663002⟩, ⟨by exact zk0 BK624⟩, ⟨by exact zk0 BK626⟩, ⟨by exact zk0 BK634⟩, ⟨by exact zk0 BK641⟩, ⟨by exact zk0 BK648⟩, ⟨by exact zk0 BK655⟩, ⟨by exact zk0 BK662⟩, ⟨by exact zb0 HB⟩⟩
                 ·rw [if_neg c139] at H
                  have c139b0 : ((rd t630 (ji136)) == 0) = false := beq_eq_false_iff_ne.mpr c139
                  have c139b1 : ((rd t630 (ji136)) != 0) = true := bne_iff_ne.mpr c139
                  replace H := Option.bind_eq_some_iff.mp H
                  obtain ⟨t665, A1430, H⟩ := H
                  replace H : (if t665 = true then (imageeditorlaw24_WandRegions.j5 kj94 t647 t654 t661 t642 t643 t644 t649 t650 t651 t656 t657 t658) else (some false)) = some r := H
                  have A143 := Aside0.mk A1430
                  clear A1430
                  by_cases c144 : t665 = true
                  ·subst c144
                   have H1 : (imageeditorlaw24_WandRegions.j5 kj94 t647 t654 t661 t642 t643 t644 t649 t650 t651 t656 t657 t658) = some r := by rw [if_pos rfl] at H; exact H
                   clear H
                   have H := H1
                   clear H1
                   as_aux_lemma =>
                    have H' := Aside0.mk H
                    clear H
                    obtain ⟨hcz145_0, hcz145_1, hcz145_2, hfz145_0, hfz145_1, hfz145_2⟩ := zq3 BK634
                    obtain ⟨hcz146_0, hcz146_1, hfz146_0, hfz146_1⟩ := zq2 BK626
                    obtain ⟨hcz147_0, hcz147_1, hcz147_2, hfz147_0, hfz147_1, hfz147_2⟩ := zq3 BK624
                    have p664 : 0 ≤ ((ji136) : Int) := of_decide_eq_true (by first | (with_reducible assumption) | assumption)
                    have q664 : (ji136) < (t630.length : Int) := of_decide_eq_true (by first | (with_reducible assumption) | assumption)
                    obtain ⟨ad664, e664, hx664_0⟩ := Kd.at_int (Kd.R_reads' HO_635002.out).2.2 (ji136) p664 q664
                    cases e664
                    replace p664 := eq_true p664
                    replace q664 := eq_true q664
                    obtain ⟨hcz148_0, hcz148_1, hcz148_2, hfz148_0, hfz148_1, hfz148_2⟩ := zq3 BK641
                    go_wp2_with (first | (go_at_call 11; (with_reducible refine (imageeditorlaw24_same.calls kj94 t628 t629 _ _ t630 t635 t636 _ _ t637 true _ ?side1 ?side2 ?side3 ?side4 A143.out).mono ?_); (case side1 => repeat (first | exact (Kd.R_reads' HO_635002.out).2.2 | (with_reducible refine Kd.C_alloc ?_ _) | (with_reducible refine Kd.C_drewN ?_ _) | (with_reducible refine Kd.C_drew ?_))); (case side2 => exact (Kd.R_reads' HO_635002.out).2.1); (case side3 => repeat (first | exact (Kd.R_reads' HO_642002.out).2.2 | (with_reducible refine Kd.C_alloc ?_ _) | (with_reducible refine Kd.C_drewN ?_ _) | (with_reducible refine Kd.C_drew ?_))); (case side4 => exact (Kd.R_reads' HO_642002.out).2.1); rintro e w149 ⟨rfl, hb⟩; replace HO_635002 := zr HO_635002 hb; replace HO_642002 := zr HO_642002 hb; replace HO_649002 := zr HO_649002 hb; replace HO_656002 := zr HO_656002 hb; replace HO_663002 := zr HO_663002 hb; replace BK624 := zk BK624 hb; replace BK626 := zk BK626 hb; replace BK634 := zk BK634 hb; replace BK641 := zk BK641 hb; replace BK648 := zk BK648 hb; replace BK655 := zk BK655 hb; replace BK662 := zk BK662 hb; replace HB := zb HB hb; (try clear hb); (try clear hb2); (try clear hk); (try clear hi)))
                    go_meet
                    case rel => exact ⟨_, H', ⟨by have := HJ5.out; have := HJ17.out; have := HJ64.out; have := HJ67.out; have := HJ94.out; first | omega | exact Nat.le_refl _⟩, ⟨by exact zr0 HO_635002⟩, ⟨by exact zr0 HO_642002⟩, ⟨by exact zr0 HO_649002⟩, ⟨by exact zr0 HO_656002⟩, ⟨by exact zr0 HO_663002⟩, ⟨by exact zk0 BK624⟩, ⟨by exact zk0 BK626⟩, ⟨by exact zk0 BK634⟩, ⟨by exact zk0 BK641⟩, ⟨by exact zk0 BK648⟩, ⟨by exact zk0 BK655⟩, ⟨by exact zk0 BK662⟩, ⟨by exact zb0 HB⟩⟩
                  ·replace c144 := Bool.eq_false_iff.mpr c144
                   subst c144
                   have H1 : (some false) = some r := by rw [if_neg (show ¬ (false = true) by decide)] at H; exact H
                   clear H
                   have H := H1
                   clear H1
                   as_aux_lemma =>
                    exact absurd HT.out (by rw [← Option.some.inj H]; decide)
                ·rw [if_neg c138] at H
                 exact absurd H (by simp)
               ·rw [if_neg c137] at H
                exact absurd H (by simp)
           ·replace c94 := Bool.eq_false_iff.mpr c94
            subst c94
            have H1 : (imageeditorlaw24_WandRegions.j5 kj67 t647 t654 t661 t642 t643 t644 t649 t650 t651 t656 t657 t658) = some r := by rw [if_neg (show ¬ (false = true) by decide)] at H; exact H
            clear H
            have H := H1
            clear H1
            as_aux_lemma =>
             have H' := Aside0.mk H
             clear H
             go_wp2
             go_meet
             case rel => exact ⟨_, H', ⟨by have := HJ5.out; have := HJ17.out; have := HJ64.out; have := HJ67.out; first | omega | exact Nat.le_refl _⟩, ⟨by exact zr0 HO_635002⟩, ⟨by exact zr0 HO_642002⟩, ⟨by exact zr0 HO_649002⟩, ⟨by exact zr0 HO_656002⟩, ⟨by exact zr0 HO_663002⟩, ⟨by exact zk0 BK624⟩, ⟨by exact zk0 BK626⟩, ⟨by exact zk0 BK634⟩, ⟨by exact zk0 BK641⟩, ⟨by exact zk0 BK648⟩, ⟨by exact zk0 BK655⟩, ⟨by exact zk0 BK662⟩, ⟨by exact zb0 HB⟩⟩
          case rest =>
           clear HC93
           try clear c1
           try clear c2
           try clear p2
           try clear q2
           try clear c3
           try clear q3
           try clear c4
           try clear c5
           try clear c6
           try clear p6
           try clear q6
           try clear hx6
           try clear c7
           try clear c8
           try clear c9
           try clear c10
           try clear c10b0
           try clear c11
           try clear c12
           try clear c13
           try clear c14
           try clear c19
           try clear c20
           try clear c22
           try clear c26
           try clear c27
           try clear c28
           try clear c35
           try clear c36
           try clear c37
           try clear c38
           try clear c45
           try clear c46
           try clear c47
           try clear c48
           try clear c49
           try clear c56
           try clear c57
           try clear c58
           try clear c59
           try clear c60
           try clear c61
           try clear c64
           try clear c64b0
           try clear p64
           try clear c66
           try clear p66
           try clear q66
           try clear hx66
           try clear c69
           try clear c70
           try clear c71
           try clear c72
           try clear c73
           try clear c74
           try clear c76
           try clear c77
           try clear c78
           try clear c79
           try clear c80
           try clear c84
           try clear c85
           try clear c86
           try clear c87
           try clear c88
           try clear c89
           try clear c92
           try clear c92b0
           try clear c92b1
           try clear c94
           try clear c96
           try clear c96b0
           try clear c96b1
           try clear c96b2
           try clear c97
           try clear c97b0
           try clear c97b1
           try clear c97b2
           try clear c99
           try clear c99b0
           try clear c99b1
           try clear c100
           try clear c100b0
           try clear c106
           try clear c106b0
           try clear c113
           try clear c113b0
           try clear c135
           try clear c137
           try clear c137b0
           try clear c138
           try clear c138b0
           try clear c139
           try clear c139b0
           try clear c139b1
           try clear c144
           try clear hcz101_0
           try clear hcz101_1
           try clear hcz101_2
           try clear hcz102_0
           try clear hcz102_1
           try clear hcz102_2
           try clear hcz103_0
           try clear hcz103_1
           try clear hcz103_2
           try clear hcz105_0
           try clear hcz105_1
           try clear hcz107_0
           try clear hcz107_1
           try clear hcz107_2
           try clear hcz108_0
           try clear hcz108_1
           try clear hcz108_2
           try clear hcz109_0
           try clear hcz109_1
           try clear hcz109_2
           try clear hcz111_0
           try clear hcz111_1
           try clear hcz112_0
           try clear hcz112_1
           try clear hcz112_2
           try clear hcz114_0
           try clear hcz114_1
           try clear hcz114_2
           try clear hcz115_0
           try clear hcz115_1
           try clear hcz115_2
           try clear hcz116_0
           try clear hcz116_1
           try clear hcz116_2
           try clear hcz118_0
           try clear hcz118_1
           try clear hcz119_0
           try clear hcz119_1
           try clear hcz119_2
           try clear hcz120_0
           try clear hcz120_1
           try clear hcz120_2
           try clear hcz121_0
           try clear hcz121_1
           try clear hcz121_2
           try clear hcz122_0
           try clear hcz122_1
           try clear hcz122_2
           try clear hcz124_0
           try clear hcz124_1
           try clear hcz125_0
           try clear hcz125_1
           try clear hcz125_2
           try clear hcz126_0
           try clear hcz126_1
           try clear hcz126_2
           try clear hcz127_0
           try clear hcz127_1
           try clear hcz127_2
           try clear hcz128_0
           try clear hcz128_1
           try clear hcz128_2
           try clear hcz130_0
           try clear hcz130_1
           try clear hcz130_2
           try clear hcz131_0
           try clear hcz131_1
           try clear hcz131_2
           try clear hcz132_0
           try clear hcz132_1
           try clear hcz132_2
           try clear hcz133_0
           try clear hcz133_1
           try clear hcz133_2
           try clear hcz134_0
           try clear hcz134_1
           try clear hcz134_2
           try clear hcz140_0
           try clear hcz140_1
           try clear hcz140_2
           try clear hcz141_0
           try clear hcz141_1
           try clear hcz142_0
           try clear hcz142_1
           try clear hcz142_2
           try clear hcz145_0
           try clear hcz145_1
           try clear hcz145_2
           try clear hcz146_0
           try clear hcz146_1
           try clear hcz147_0
           try clear hcz147_1
           try clear hcz147_2
           try clear hcz148_0
           try clear hcz148_1
           try clear hcz148_2
           try clear hcz21_0
           try clear hcz21_1
           try clear hcz21_2
           try clear hcz23_0
           try clear hcz23_1
           try clear hcz29_0
           try clear hcz29_1
           try clear hcz29_2
           try clear hcz31_0
           try clear hcz31_1
           try clear hcz31_2
           try clear hcz32_0
           try clear hcz32_1
           try clear hcz39_0
           try clear hcz39_1
           try clear hcz39_2
           try clear hcz41_0
           try clear hcz41_1
           try clear hcz41_2
           try clear hcz42_0
           try clear hcz42_1
           try clear hcz50_0
           try clear hcz50_1
           try clear hcz50_2
           try clear hcz52_0
           try clear hcz52_1
           try clear hcz52_2
           try clear hcz53_0
           try clear hcz53_1
           try clear hcz62_0
           try clear hcz62_1
           try clear hcz62_2
           try clear hcz75_0
           try clear hcz75_1
           try clear hcz75_2
           try clear hcz81_0
           try clear hcz81_1
           try clear hcz90_0
           try clear hcz90_1
           try clear hcz90_2
           try clear hfz101_0
           try clear hfz101_1
           try clear hfz101_2
           try clear hfz102_0
           try clear hfz102_1
           try clear hfz102_2
           try clear hfz103_0
           try clear hfz103_1
           try clear hfz103_2
           try clear hfz105_0
           try clear hfz105_1
           try clear hfz107_0
           try clear hfz107_1
           try clear hfz107_2
           try clear hfz108_0
           try clear hfz108_1
           try clear hfz108_2
           try clear hfz109_0
           try clear hfz109_1
           try clear hfz109_2
           try clear hfz111_0
           try clear hfz111_1
           try clear hfz112_0
           try clear hfz112_1
           try clear hfz112_2
           try clear hfz114_0
           try clear hfz114_1
           try clear hfz114_2
           try clear hfz115_0
           try clear hfz115_1
           try clear hfz115_2
           try clear hfz116_0
           try clear hfz116_1
           try clear hfz116_2
           try clear hfz118_0
           try clear hfz118_1
           try clear hfz119_0
           try clear hfz119_1
           try clear hfz119_2
           try clear hfz120_0
           try clear hfz120_1
           try clear hfz120_2
           try clear hfz121_0
           try clear hfz121_1
           try clear hfz121_2
           try clear hfz122_0
           try clear hfz122_1
           try clear hfz122_2
           try clear hfz124_0
           try clear hfz124_1
           try clear hfz125_0
           try clear hfz125_1
           try clear hfz125_2
           try clear hfz126_0
           try clear hfz126_1
           try clear hfz126_2
           try clear hfz127_0
           try clear hfz127_1
           try clear hfz127_2
           try clear hfz128_0
           try clear hfz128_1
           try clear hfz128_2
           try clear hfz130_0
           try clear hfz130_1
           try clear hfz130_2
           try clear hfz131_0
           try clear hfz131_1
           try clear hfz131_2
           try clear hfz132_0
           try clear hfz132_1
           try clear hfz132_2
           try clear hfz133_0
           try clear hfz133_1
           try clear hfz133_2
           try clear hfz134_0
           try clear hfz134_1
           try clear hfz134_2
           try clear hfz140_0
           try clear hfz140_1
           try clear hfz140_2
           try clear hfz141_0
           try clear hfz141_1
           try clear hfz142_0
           try clear hfz142_1
           try clear hfz142_2
           try clear hfz145_0
           try clear hfz145_1
           try clear hfz145_2
           try clear hfz146_0
           try clear hfz146_1
           try clear hfz147_0
           try clear hfz147_1
           try clear hfz147_2
           try clear hfz148_0
           try clear hfz148_1
           try clear hfz148_2
           try clear hfz21_0
           try clear hfz21_1
           try clear hfz21_2
           try clear hfz23_0
           try clear hfz23_1
           try clear hfz29_0
           try clear hfz29_1
           try clear hfz29_2
           try clear hfz31_0
           try clear hfz31_1
           try clear hfz31_2
           try clear hfz32_0
           try clear hfz32_1
           try clear hfz39_0
           try clear hfz39_1
           try clear hfz39_2
           try clear hfz41_0
           try clear hfz41_1
           try clear hfz41_2
           try clear hfz42_0
           try clear hfz42_1
           try clear hfz50_0
           try clear hfz50_1
           try clear hfz50_2
           try clear hfz52_0
           try clear hfz52_1
           try clear hfz52_2
           try clear hfz53_0
           try clear hfz53_1
           try clear hfz62_0
           try clear hfz62_1
           try clear hfz62_2
           try clear hfz75_0
           try clear hfz75_1
           try clear hfz75_2
           try clear hfz81_0
           try clear hfz81_1
           try clear hfz90_0
           try clear hfz90_1
           try clear hfz90_2
           try clear hx664_0
           try clear p2
           try clear p6
           try clear p64
           try clear p664
           try clear q2
           try clear q3
           try clear q664
           obtain ⟨kq, HA, HJ92, HO_635002, HO_642002, HO_649002, HO_656002, HO_663002, BK624, BK626, BK634, BK641, BK648, BK655, BK662, HB⟩ := hcut
           cases kq with
           | zero => exact absurd HA.out (by simp [imageeditorlaw24_WandRegions.j5])
           | succ kj92 =>
            have H := HA.out
            clear HA
            simp only [imageeditorlaw24_WandRegions.j5] at H
            have HC150 := Aside0.mk H
            clear H
            go_upto_region 16 with (fail)
            go_cut [152] (fun v152 wc => ∃ (kq : Nat) (x152_149 : Bool), v152 = .bool x152_149 ∧ Aside0 (imageeditorlaw24_WandRegions.j6 kq x152_149 t642 t643 t644 t649 t650 t651 t656 t657 t658 = some r) ∧ Aside0 (kq ≤ kj92) ∧ Aside0 (Kd.R (Kd.int .i64) 3 wc w.heap.size (fun _ => True) (.slice Ao30 t630.length co30) t630) ∧ Aside0 (Kd.R (Kd.int .i64) 3 wc w.heap.size (fun _ => True) (.slice Ao40 t637.length co40) t637) ∧ Aside0 (Kd.R (Kd.int .i64) 3 wc w.heap.size (fun _ => True) (.slice Ao51 t644.length co51) t644) ∧ Aside0 (Kd.R (Kd.int .i64) 3 wc w.heap.size (fun _ => True) (.slice Ao63 t651.length co63) t651) ∧ Aside0 (Kd.R (Kd.int .i64) 3 wc w.heap.size (fun _ => True) (.slice Ao91 t658.length co91) t658) ∧ Aside0 (wc.heap[gb624]? = some (.cells #[.int .i64 a0_0, .int .i64 a0_1, (.slice A0_2 l0_2.length c0_2)] 24 (0, 0))) ∧ Aside0 (wc.heap[gb626]? = some (.cells #[.int .i64 a2_0, .int .i64 a2_1] 26 (0, 0))) ∧ Aside0 (wc.heap[gb634]? = some (.cells #[.int .i64 t628, .int .i64 t629, (.slice Ao30 t630.length co30)] 29 (0, 0))) ∧ Aside0 (wc.heap[gb641]? = some (.cells #[.int .i64 t635, .int .i64 t636, (.slice Ao40 t637.length co40)] 29 (0, 0))) ∧ Aside0 (wc.heap[gb648]? = some (.cells #[.int .i64 t642, .int .i64 t643, (.slice Ao51 t644.length co51)] 29 (0, 0))) ∧ Aside0 (wc.heap[gb655]? = some (.cells #[.int .i64 t649, .int .i64 t650, (.slice Ao63 t651.length co63)] 29 (0, 0))) ∧ Aside0 (wc.heap[gb662]? = some (.cells #[.int .i64 t656, .int .i64 t657, (.slice Ao91 t658.length co91)] 29 (0, 0))) ∧ Aside0 (Below w.heap.size w wc))
            case first =>
             have H := HC150.out
             clear HC150
             by_cases c151 : t647 = t654
             ·rw [if_pos c151] at H
              have c151b0 : (t647 == t654) = true := beq_iff_eq.mpr c151
              have c151b1 : (t647 != t654) = false := bne_eq_false_iff_eq.mpr c151
              clear c151
              (first | rw [c151b0] | (simp only [i64_w, i32_w]; rw [c151b0]) | skip)
              as_aux_lemma =>
               have H' := Aside0.mk H
               clear H
               go_wp2
               go_meet
               case rel => exact ⟨_, ((t647 != t661)), (by first | rfl | (simp; done) | (simp [*]; done)), H', ⟨by have := HJ5.out; have := HJ17.out; have := HJ64.out; have := HJ67.out; have := HJ92.out; first | omega | exact Nat.le_refl _⟩, ⟨by exact zr0 HO_635002⟩, ⟨by exact zr0 HO_642002⟩, ⟨by exact zr0 HO_649002⟩, ⟨by exact zr0 HO_656002⟩, ⟨by exact zr0 HO_663002⟩, ⟨by exact zk0 BK624⟩, ⟨by exact zk0 BK626⟩, ⟨by exact zk0 BK634⟩, ⟨by exact zk0 BK641⟩, ⟨by exact zk0 BK648⟩, ⟨by exact zk0 BK655⟩, ⟨by exact zk0 BK662⟩, ⟨by exact zb0 HB⟩⟩
             ·rw [if_neg c151] at H
              have c151b0 : (t647 == t654) = false := beq_eq_false_iff_ne.mpr c151
              have c151b1 : (t647 != t654) = true := bne_iff_ne.mpr c151
              (first | rw [c151b0] | (simp only [i64_w, i32_w]; rw [c151b0]) | skip)
              as_aux_lemma =>
               have H' := Aside0.mk H
               clear H
               go_wp2
               go_meet
               case rel => exact ⟨_, (true), (by first | rfl | (simp; done) | (simp [*]; done)), H', ⟨by have := HJ5.out; have := HJ17.out; have := HJ64.out; have := HJ67.out; have := HJ92.out; first | omega | exact Nat.le_refl _⟩, ⟨by exact zr0 HO_635002⟩, ⟨by exact zr0 HO_642002⟩, ⟨by exact zr0 HO_649002⟩, ⟨by exact zr0 HO_656002⟩, ⟨by exact zr0 HO_663002⟩, ⟨by exact zk0 BK624⟩, ⟨by exact zk0 BK626⟩, ⟨by exact zk0 BK634⟩, ⟨by exact zk0 BK641⟩, ⟨by exact zk0 BK648⟩, ⟨by exact zk0 BK655⟩, ⟨by exact zk0 BK662⟩, ⟨by exact zb0 HB⟩⟩
            case rest =>
             clear HC150
             try clear c1
             try clear c2
             try clear p2
             try clear q2
             try clear c3
             try clear q3
             try clear c4
             try clear c5
             try clear c6
             try clear p6
             try clear q6
             try clear hx6
             try clear c7
             try clear c8
             try clear c9
             try clear c10
             try clear c10b0
             try clear c11
             try clear c12
             try clear c13
             try clear c14
             try clear c15
             try clear c19
             try clear c20
             try clear c22
             try clear c26
             try clear c27
             try clear c28
             try clear c35
             try clear c36
             try clear c37
             try clear c38
             try clear c45
             try clear c46
             try clear c47
             try clear c48
             try clear c49
             try clear c56
             try clear c57
             try clear c58
             try clear c59
             try clear c60
             try clear c61
             try clear c64
             try clear c64b0
             try clear p64
             try clear c66
             try clear p66
             try clear q66
             try clear hx66
             try clear c69
             try clear c70
             try clear c71
             try clear c72
             try clear c73
             try clear c74
             try clear c76
             try clear c77
             try clear c78
             try clear c79
             try clear c80
             try clear c84
             try clear c85
             try clear c86
             try clear c87
             try clear c88
             try clear c89
             try clear c92
             try clear c92b0
             try clear c92b1
             try clear c94
             try clear c96
             try clear c96b0
             try clear c96b1
             try clear c96b2
             try clear c97
             try clear c97b0
             try clear c97b1
             try clear c97b2
             try clear c99
             try clear c99b0
             try clear c99b1
             try clear c100
             try clear c100b0
             try clear c106
             try clear c106b0
             try clear c113
             try clear c113b0
             try clear c135
             try clear c137
             try clear c137b0
             try clear c138
             try clear c138b0
             try clear c139
             try clear c139b0
             try clear c139b1
             try clear c144
             try clear c151
             try clear c151b0
             try clear c151b1
             try clear hcz101_0
             try clear hcz101_1
             try clear hcz101_2
             try clear hcz102_0
             try clear hcz102_1
             try clear hcz102_2
             try clear hcz103_0
             try clear hcz103_1
             try clear hcz103_2
             try clear hcz105_0
             try clear hcz105_1
             try clear hcz107_0
             try clear hcz107_1
             try clear hcz107_2
             try clear hcz108_0
             try clear hcz108_1
             try clear hcz108_2
             try clear hcz109_0
             try clear hcz109_1
             try clear hcz109_2
             try clear hcz111_0
             try clear hcz111_1
             try clear hcz112_0
             try clear hcz112_1
             try clear hcz112_2
             try clear hcz114_0
             try clear hcz114_1
             try clear hcz114_2
             try clear hcz115_0
             try clear hcz115_1
             try clear hcz115_2
             try clear hcz116_0
             try clear hcz116_1
             try clear hcz116_2
             try clear hcz118_0
             try clear hcz118_1
             try clear hcz119_0
             try clear hcz119_1
             try clear hcz119_2
             try clear hcz120_0
             try clear hcz120_1
             try clear hcz120_2
             try clear hcz121_0
             try clear hcz121_1
             try clear hcz121_2
             try clear hcz122_0
             try clear hcz122_1
             try clear hcz122_2
             try clear hcz124_0
             try clear hcz124_1
             try clear hcz125_0
             try clear hcz125_1
             try clear hcz125_2
             try clear hcz126_0
             try clear hcz126_1
             try clear hcz126_2
             try clear hcz127_0
             try clear hcz127_1
             try clear hcz127_2
             try clear hcz128_0
             try clear hcz128_1
             try clear hcz128_2
             try clear hcz130_0
             try clear hcz130_1
             try clear hcz130_2
             try clear hcz131_0
             try clear hcz131_1
             try clear hcz131_2
             try clear hcz132_0
             try clear hcz132_1
             try clear hcz132_2
             try clear hcz133_0
             try clear hcz133_1
             try clear hcz133_2
             try clear hcz134_0
             try clear hcz134_1
             try clear hcz134_2
             try clear hcz140_0
             try clear hcz140_1
             try clear hcz140_2
             try clear hcz141_0
             try clear hcz141_1
             try clear hcz142_0
             try clear hcz142_1
             try clear hcz142_2
             try clear hcz145_0
             try clear hcz145_1
             try clear hcz145_2
             try clear hcz146_0
             try clear hcz146_1
             try clear hcz147_0
             try clear hcz147_1
             try clear hcz147_2
             try clear hcz148_0
             try clear hcz148_1
             try clear hcz148_2
             try clear hcz21_0
             try clear hcz21_1
             try clear hcz21_2
             try clear hcz23_0
             try clear hcz23_1
             try clear hcz29_0
             try clear hcz29_1
             try clear hcz29_2
             try clear hcz31_0
             try clear hcz31_1
             try clear hcz31_2
             try clear hcz32_0
             try clear hcz32_1
             try clear hcz39_0
             try clear hcz39_1
             try clear hcz39_2
             try clear hcz41_0
             try clear hcz41_1
             try clear hcz41_2
             try clear hcz42_0
             try clear hcz42_1
             try clear hcz50_0
             try clear hcz50_1
             try clear hcz50_2
             try clear hcz52_0
             try clear hcz52_1
             try clear hcz52_2
             try clear hcz53_0
             try clear hcz53_1
             try clear hcz62_0
             try clear hcz62_1
             try clear hcz62_2
             try clear hcz75_0
             try clear hcz75_1
             try clear hcz75_2
             try clear hcz81_0
             try clear hcz81_1
             try clear hcz90_0
             try clear hcz90_1
             try clear hcz90_2
             try clear hfz101_0
             try clear hfz101_1
             try clear hfz101_2
             try clear hfz102_0
             try clear hfz102_1
             try clear hfz102_2
             try clear hfz103_0
             try clear hfz103_1
             try clear hfz103_2
             try clear hfz105_0
             try clear hfz105_1
             try clear hfz107_0
             try clear hfz107_1
             try clear hfz107_2
             try clear hfz108_0
             try clear hfz108_1
             try clear hfz108_2
             try clear hfz109_0
             try clear hfz109_1
             try clear hfz109_2
             try clear hfz111_0
             try clear hfz111_1
             try clear hfz112_0
             try clear hfz112_1
             try clear hfz112_2
             try clear hfz114_0
             try clear hfz114_1
             try clear hfz114_2
             try clear hfz115_0
             try clear hfz115_1
             try clear hfz115_2
             try clear hfz116_0
             try clear hfz116_1
             try clear hfz116_2
             try clear hfz118_0
             try clear hfz118_1
             try clear hfz119_0
             try clear hfz119_1
             try clear hfz119_2
             try clear hfz120_0
             try clear hfz120_1
             try clear hfz120_2
             try clear hfz121_0
             try clear hfz121_1
             try clear hfz121_2
             try clear hfz122_0
             try clear hfz122_1
             try clear hfz122_2
             try clear hfz124_0
             try clear hfz124_1
             try clear hfz125_0
             try clear hfz125_1
             try clear hfz125_2
             try clear hfz126_0
             try clear hfz126_1
             try clear hfz126_2
             try clear hfz127_0
             try clear hfz127_1
             try clear hfz127_2
             try clear hfz128_0
             try clear hfz128_1
             try clear hfz128_2
             try clear hfz130_0
             try clear hfz130_1
             try clear hfz130_2
             try clear hfz131_0
             try clear hfz131_1
             try clear hfz131_2
             try clear hfz132_0
             try clear hfz132_1
             try clear hfz132_2
             try clear hfz133_0
             try clear hfz133_1
             try clear hfz133_2
             try clear hfz134_0
             try clear hfz134_1
             try clear hfz134_2
             try clear hfz140_0
             try clear hfz140_1
             try clear hfz140_2
             try clear hfz141_0
             try clear hfz141_1
             try clear hfz142_0
             try clear hfz142_1
             try clear hfz142_2
             try clear hfz145_0
             try clear hfz145_1
             try clear hfz145_2
             try clear hfz146_0
             try clear hfz146_1
             try clear hfz147_0
             try clear hfz147_1
             try clear hfz147_2
             try clear hfz148_0
             try clear hfz148_1
             try clear hfz148_2
             try clear hfz21_0
             try clear hfz21_1
             try clear hfz21_2
             try clear hfz23_0
             try clear hfz23_1
             try clear hfz29_0
             try clear hfz29_1
             try clear hfz29_2
             try clear hfz31_0
             try clear hfz31_1
             try clear hfz31_2
             try clear hfz32_0
             try clear hfz32_1
             try clear hfz39_0
             try clear hfz39_1
             try clear hfz39_2
             try clear hfz41_0
             try clear hfz41_1
             try clear hfz41_2
             try clear hfz42_0
             try clear hfz42_1
             try clear hfz50_0
             try clear hfz50_1
             try clear hfz50_2
             try clear hfz52_0
             try clear hfz52_1
             try clear hfz52_2
             try clear hfz53_0
             try clear hfz53_1
             try clear hfz62_0
             try clear hfz62_1
             try clear hfz62_2
             try clear hfz75_0
             try clear hfz75_1
             try clear hfz75_2
             try clear hfz81_0
             try clear hfz81_1
             try clear hfz90_0
             try clear hfz90_1
             try clear hfz90_2
             try clear hx664_0
             try clear p2
             try clear p6
             try clear p64
             try clear p66
             try clear p664
             try clear q2
             try clear q3
             try clear q6
             try clear q66
             try clear q664
             obtain ⟨kq, x152_149, rfl, HA, HJ149, HO_635002, HO_642002, HO_649002, HO_656002, HO_663002, BK624, BK626, BK634, BK641, BK648, BK655, BK662, HB⟩ := hcut
             cases kq with
             | zero => exact absurd HA.out (by simp [imageeditorlaw24_WandRegions.j6])
             | succ kj149 =>
              have H := HA.out
              clear HA
              simp only [imageeditorlaw24_WandRegions.j6] at H
              by_cases c152 : x152_149 = true
              ·subst c152
               have H1 : (some false) = some r := by rw [if_pos rfl] at H; exact H
               clear H
               have H := H1
               clear H1
               as_aux_lemma =>
                exact absurd HT.out (by rw [← Option.some.inj H]; decide)
              ·replace c152 := Bool.eq_false_iff.mpr c152
               subst c152
               have H1 : (if (t644.length : Int) = (t651.length : Int) then (imageeditorlaw24_WandRegions.j7 kj149 ((t644.length : Int) != (t658.length : Int)) t642 t643 t644 t649 t650 t651 t656 t657 t658) else (imageeditorlaw24_WandRegions.j7 kj149 true t642 t643 t644 t649 t650 t651 t656 t657 t658)) = some r := by rw [if_neg (show ¬ (false = true) by decide)] at H; exact H
               clear H
               have H := H1
               clear H1
               have HC153 := Aside0.mk H
               clear H
               go_upto_region 18 with (fail)
               go_cut [168] (fun v168 wc => ∃ (kq : Nat) (x168_152 : Bool), v168 = .bool x168_152 ∧ Aside0 (imageeditorlaw24_WandRegions.j7 kq x168_152 t642 t643 t644 t649 t650 t651 t656 t657 t658 = some r) ∧ Aside0 (kq ≤ kj149) ∧ Aside0 (Kd.R (Kd.int .i64) 3 wc w.heap.size (fun _ => True) (.slice Ao30 t630.length co30) t630) ∧ Aside0 (Kd.R (Kd.int .i64) 3 wc w.heap.size (fun _ => True) (.slice Ao40 t637.length co40) t637) ∧ Aside0 (Kd.R (Kd.int .i64) 3 wc w.heap.size (fun _ => True) (.slice Ao51 t644.length co51) t644) ∧ Aside0 (Kd.R (Kd.int .i64) 3 wc w.heap.size (fun _ => True) (.slice Ao63 t651.length co63) t651) ∧ Aside0 (Kd.R (Kd.int .i64) 3 wc w.heap.size (fun _ => True) (.slice Ao91 t658.length co91) t658) ∧ Aside0 (wc.heap[gb624]? = some (.cells #[.int .i64 a0_0, .int .i64 a0_1, (.slice A0_2 l0_2.length c0_2)] 24 (0, 0))) ∧ Aside0 (wc.heap[gb626]? = some (.cells #[.int .i64 a2_0, .int .i64 a2_1] 26 (0, 0))) ∧ Aside0 (wc.heap[gb634]? = some (.cells #[.int .i64 t628, .int .i64 t629, (.slice Ao30 t630.length co30)] 29 (0, 0))) ∧ Aside0 (wc.heap[gb641]? = some (.cells #[.int .i64 t635, .int .i64 t636, (.slice Ao40 t637.length co40)] 29 (0, 0))) ∧ Aside0 (wc.heap[gb648]? = some (.cells #[.int .i64 t642, .int .i64 t643, (.slice Ao51 t644.length co51)] 29 (0, 0))) ∧ Aside0 (wc.heap[gb655]? = some (.cells #[.int .i64 t649, .int .i64 t650, (.slice Ao63 t651.length co63)] 29 (0, 0))) ∧ Aside0 (wc.heap[gb662]? = some (.cells #[.int .i64 t656, .int .i64 t657, (.slice Ao91 t658.length co91)] 29 (0, 0))) ∧ Aside0 (Below w.heap.size w wc))
               case first =>
                have H := HC153.out
                clear HC153
                by_cases c154 : (t644.length : Int) = (t651.length : Int)
                ·rw [if_pos c154] at H
                 have c154b0 : ((t644.length : Int) == (t651.length : Int)) = true := beq_iff_eq.mpr c154
                 have c154b1 : ((t644.length : Int) != (t651.length : Int)) = false := bne_eq_false_iff_eq.mpr c154
                 have c154b2 : (t644.length == t651.length) = true := by first | simpa using c154 | (simp at c154 ⊢; omega)
                 clear c154
                 (first | rw [c154b0] | (simp only [i64_w, i32_w]; rw [c154b0]) | skip)
                 as_aux_lemma =>
                  have H' := Aside0.mk H
                  clear H
                  obtain ⟨hcz155_0, hcz155_1, hcz155_2, hfz155_0, hfz155_1, hfz155_2⟩ := zq3 BK648
                  obtain ⟨hcz156_0, hcz156_1, hcz156_2, hfz156_0, hfz156_1, hfz156_2⟩ := zq3 BK655
                  obtain ⟨hcz157_0, hcz157_1, hcz157_2, hfz157_0, hfz157_1, hfz157_2⟩ := zq3 BK662
                  go_wp2
                  go_meet
                  case rel => exact ⟨_, (((t644.length : Int) != (t658.length : Int))), (by first | rfl | (simp; done) | (simp [*]; done)), H', ⟨by have := HJ5.out; have := HJ17.out; have := HJ64.out; have := HJ67.out; have := HJ92.out; have := HJ149.out; first | omega | exact Nat.le_refl _⟩, ⟨by exact zr0 HO_635002⟩, ⟨by exact zr0 HO_642002⟩, ⟨by exact zr0 HO_649002⟩, ⟨by exact zr0 HO_656002⟩, ⟨by exact zr0 HO_663002⟩, ⟨by exact zk0 BK624⟩, ⟨by exact zk0 BK626⟩, ⟨by exact zk0 BK634⟩, ⟨by exact zk0 BK641⟩, ⟨by exact zk0 BK648⟩, ⟨by exact zk0 BK655⟩, ⟨by exact zk0 BK662⟩, ⟨by exact zb0 HB⟩⟩
                ·rw [if_neg c154] at H
                 have c154b0 : ((t644.length : Int) == (t651.length : Int)) = false := beq_eq_false_iff_ne.mpr c154
                 have c154b1 : ((t644.length : Int) != (t651.length : Int)) = true := bne_iff_ne.mpr c154
                 have c154b2 : (t644.length == t651.length) = false := by first | simpa using c154 | (simp at c154 ⊢; omega)
                 (first | rw [c154b0] | (simp only [i64_w, i32_w]; rw [c154b0]) | skip)
                 as_aux_lemma =>
                  have H' := Aside0.mk H
                  clear H
                  obtain ⟨hcz158_0, hcz158_1, hcz158_2, hfz158_0, hfz158_1, hfz158_2⟩ := zq3 BK648
                  obtain ⟨hcz159_0, hcz159_1, hcz159_2, hfz159_0, hfz159_1, hfz159_2⟩ := zq3 BK655
                  go_wp2
                  go_meet
                  case rel => exact ⟨_, (true), (by first | rfl | (simp; done) | (simp [*]; done)), H', ⟨by have := HJ5.out; have := HJ17.out; have := HJ64.out; have := HJ67.out; have := HJ92.out; have := HJ149.out; first | omega | exact Nat.le_refl _⟩, ⟨by exact zr0 HO_635002⟩, ⟨by exact zr0 HO_642002⟩, ⟨by exact zr0 HO_649002⟩, ⟨by exact zr0 HO_656002⟩, ⟨by exact zr0 HO_663002⟩, ⟨by exact zk0 BK624⟩, ⟨by exact zk0 BK626⟩, ⟨by exact zk0 BK634⟩, ⟨by exact zk0 BK641⟩, ⟨by exact zk0 BK648⟩, ⟨by exact zk0 BK655⟩, ⟨by exact zk0 BK662⟩, ⟨by exact zb0 HB⟩⟩
               case rest =>
                clear HC153
                try clear c1
                try clear c2
                try clear p2
                try clear q2
                try clear c3
                try clear q3
                try clear c4
                try clear c5
                try clear c6
                try clear p6
                try clear q6
                try clear hx6
                try clear c7
                try clear c8
                try clear c9
                try clear c10
                try clear c10b0
                try clear c11
                try clear c12
                try clear c13
                try clear c14
                try clear c15
                try clear c19
                try clear c20
                try clear c22
                try clear c26
                try clear c27
                try clear c28
                try clear c35
                try clear c36
                try clear c37
                try clear c38
                try clear c45
                try clear c46
                try clear c47
                try clear c48
                try clear c49
                try clear c56
                try clear c57
                try clear c58
                try clear c59
                try clear c60
                try clear c61
                try clear c64
                try clear c64b0
                try clear p64
                try clear c66
                try clear p66
                try clear q66
                try clear hx66
                try clear c69
                try clear c70
                try clear c71
                try clear c72
                try clear c73
                try clear c74
                try clear c76
                try clear c77
                try clear c78
                try clear c79
                try clear c80
                try clear c84
                try clear c85
                try clear c86
                try clear c87
                try clear c88
                try clear c89
                try clear c92
                try clear c92b0
                try clear c92b1
                try clear c94
                try clear c96
                try clear c96b0
                try clear c96b1
                try clear c96b2
                try clear c97
                try clear c97b0
                try clear c97b1
                try clear c97b2
                try clear c99
                try clear c99b0
                try clear c99b1
                try clear c100
                try clear c100b0
                try clear c106
                try clear c106b0
                try clear c113
                try clear c113b0
                try clear c135
                try clear c137
                try clear c137b0
                try clear c138
                try clear c138b0
                try clear c139
                try clear c139b0
                try clear c139b1
                try clear c144
                try clear c151
                try clear c151b0
                try clear c151b1
                try clear c152
                try clear c154
                try clear c154b0
                try clear c154b1
                try clear c154b2
                try clear hcz101_0
                try clear hcz101_1
                try clear hcz101_2
                try clear hcz102_0
                try clear hcz102_1
                try clear hcz102_2
                try clear hcz103_0
                try clear hcz103_1
                try clear hcz103_2
                try clear hcz105_0
                try clear hcz105_1
                try clear hcz107_0
                try clear hcz107_1
                try clear hcz107_2
                try clear hcz108_0
                try clear hcz108_1
                try clear hcz108_2
                try clear hcz109_0
                try clear hcz109_1
                try clear hcz109_2
                try clear hcz111_0
                try clear hcz111_1
                try clear hcz112_0
                try clear hcz112_1
                try clear hcz112_2
                try clear hcz114_0
                try clear hcz114_1
                try clear hcz114_2
                try clear hcz115_0
                try clear hcz115_1
                try clear hcz115_2
                try clear hcz116_0
                try clear hcz116_1
                try clear hcz116_2
                try clear hcz118_0
                try clear hcz118_1
                try clear hcz119_0
                try clear hcz119_1
                try clear hcz119_2
                try clear hcz120_0
                try clear hcz120_1
                try clear hcz120_2
                try clear hcz121_0
                try clear hcz121_1
                try clear hcz121_2
                try clear hcz122_0
                try clear hcz122_1
                try clear hcz122_2
                try clear hcz124_0
                try clear hcz124_1
                try clear hcz125_0
                try clear hcz125_1
                try clear hcz125_2
                try clear hcz126_0
                try clear hcz126_1
                try clear hcz126_2
                try clear hcz127_0
                try clear hcz127_1
                try clear hcz127_2
                try clear hcz128_0
                try clear hcz128_1
                try clear hcz128_2
                try clear hcz130_0
                try clear hcz130_1
                try clear hcz130_2
                try clear hcz131_0
                try clear hcz131_1
                try clear hcz131_2
                try clear hcz132_0
                try clear hcz132_1
                try clear hcz132_2
                try clear hcz133_0
                try clear hcz133_1
                try clear hcz133_2
                try clear hcz134_0
                try clear hcz134_1
                try clear hcz134_2
                try clear hcz140_0
                try clear hcz140_1
                try clear hcz140_2
                try clear hcz141_0
                try clear hcz141_1
                try clear hcz142_0
                try clear hcz142_1
                try clear hcz142_2
                try clear hcz145_0
                try clear hcz145_1
                try clear hcz145_2
                try clear hcz146_0
                try clear hcz146_1
                try clear hcz147_0
                try clear hcz147_1
                try clear hcz147_2
                try clear hcz148_0
                try clear hcz148_1
                try clear hcz148_2
                try clear hcz155_0
                try clear hcz155_1
                try clear hcz155_2
                try clear hcz156_0
                try clear hcz156_1
                try clear hcz156_2
                try clear hcz157_0
                try clear hcz157_1
                try clear hcz157_2
                try clear hcz158_0
                try clear hcz158_1
                try clear hcz158_2
                try clear hcz159_0
                try clear hcz159_1
                try clear hcz159_2
                try clear hcz21_0
                try clear hcz21_1
                try clear hcz21_2
                try clear hcz23_0
                try clear hcz23_1
                try clear hcz29_0
                try clear hcz29_1
                try clear hcz29_2
                try clear hcz31_0
                try clear hcz31_1
                try clear hcz31_2
                try clear hcz32_0
                try clear hcz32_1
                try clear hcz39_0
                try clear hcz39_1
                try clear hcz39_2
                try clear hcz41_0
                try clear hcz41_1
                try clear hcz41_2
                try clear hcz42_0
                try clear hcz42_1
                try clear hcz50_0
                try clear hcz50_1
                try clear hcz50_2
                try clear hcz52_0
                try clear hcz52_1
                try clear hcz52_2
                try clear hcz53_0
                try clear hcz53_1
                try clear hcz62_0
                try clear hcz62_1
                try clear hcz62_2
                try clear hcz75_0
                try clear hcz75_1
                try clear hcz75_2
                try clear hcz81_0
                try clear hcz81_1
                try clear hcz90_0
                try clear hcz90_1
                try clear hcz90_2
                try clear hfz101_0
                try clear hfz101_1
                try clear hfz101_2
                try clear hfz102_0
                try clear hfz102_1
                try clear hfz102_2
                try clear hfz103_0
                try clear hfz103_1
                try clear hfz103_2
                try clear hfz105_0
                try clear hfz105_1
                try clear hfz107_0
                try clear hfz107_1
                try clear hfz107_2
                try clear hfz108_0
                try clear hfz108_1
                try clear hfz108_2
                try clear hfz109_0
                try clear hfz109_1
                try clear hfz109_2
                try clear hfz111_0
                try clear hfz111_1
                try clear hfz112_0
                try clear hfz112_1
                try clear hfz112_2
                try clear hfz114_0
                try clear hfz114_1
                try clear hfz114_2
                try clear hfz115_0
                try clear hfz115_1
                try clear hfz115_2
                try clear hfz116_0
                try clear hfz116_1
                try clear hfz116_2
                try clear hfz118_0
                try clear hfz118_1
                try clear hfz119_0
                try clear hfz119_1
                try clear hfz119_2
                try clear hfz120_0
                try clear hfz120_1
                try clear hfz120_2
                try clear hfz121_0
                try clear hfz121_1
                try clear hfz121_2
                try clear hfz122_0
                try clear hfz122_1
                try clear hfz122_2
                try clear hfz124_0
                try clear hfz124_1
                try clear hfz125_0
                try clear hfz125_1
                try clear hfz125_2
                try clear hfz126_0
                try clear hfz126_1
                try clear hfz126_2
                try clear hfz127_0
                try clear hfz127_1
                try clear hfz127_2
                try clear hfz128_0
                try clear hfz128_1
                try clear hfz128_2
                try clear hfz130_0
                try clear hfz130_1
                try clear hfz130_2
                try clear hfz131_0
                try clear hfz131_1
                try clear hfz131_2
                try clear hfz132_0
                try clear hfz132_1
                try clear hfz132_2
                try clear hfz133_0
                try clear hfz133_1
                try clear hfz133_2
                try clear hfz134_0
                try clear hfz134_1
                try clear hfz134_2
                try clear hfz140_0
                try clear hfz140_1
                try clear hfz140_2
                try clear hfz141_0
                try clear hfz141_1
                try clear hfz142_0
                try clear hfz142_1
                try clear hfz142_2
                try clear hfz145_0
                try clear hfz145_1
                try clear hfz145_2
                try clear hfz146_0
                try clear hfz146_1
                try clear hfz147_0
                try clear hfz147_1
                try clear hfz147_2
                try clear hfz148_0
                try clear hfz148_1
                try clear hfz148_2
                try clear hfz155_0
                try clear hfz155_1
                try clear hfz155_2
                try clear hfz156_0
                try clear hfz156_1
                try clear hfz156_2
                try clear hfz157_0
                try clear hfz157_1
                try clear hfz157_2
                try clear hfz158_0
                try clear hfz158_1
                try clear hfz158_2
                try clear hfz159_0
                try clear hfz159_1
                try clear hfz159_2
                try clear hfz21_0
                try clear hfz21_1
                try clear hfz21_2
                try clear hfz23_0
                try clear hfz23_1
                try clear hfz29_0
                try clear hfz29_1
                try clear hfz29_2
                try clear hfz31_0
                try clear hfz31_1
                try clear hfz31_2
                try clear hfz32_0
                try clear hfz32_1
                try clear hfz39_0
                try clear hfz39_1
                try clear hfz39_2
                try clear hfz41_0
                try clear hfz41_1
                try clear hfz41_2
                try clear hfz42_0
                try clear hfz42_1
                try clear hfz50_0
                try clear hfz50_1
                try clear hfz50_2
                try clear hfz52_0
                try clear hfz52_1
                try clear hfz52_2
                try clear hfz53_0
                try clear hfz53_1
                try clear hfz62_0
                try clear hfz62_1
                try clear hfz62_2
                try clear hfz75_0
                try clear hfz75_1
                try clear hfz75_2
                try clear hfz81_0
                try clear hfz81_1
                try clear hfz90_0
                try clear hfz90_1
                try clear hfz90_2
                try clear hx664_0
                try clear p2
                try clear p6
                try clear p64
                try clear p66
                try clear p664
                try clear q2
                try clear q3
                try clear q6
                try clear q66
                try clear q664
                obtain ⟨kq, x168_152, rfl, HA, HJ152, HO_635002, HO_642002, HO_649002, HO_656002, HO_663002, BK624, BK626, BK634, BK641, BK648, BK655, BK662, HB⟩ := hcut
                cases kq with
                | zero => exact absurd HA.out (by simp [imageeditorlaw24_WandRegions.j7])
                | succ kj152 =>
                 have H := HA.out
                 clear HA
                 simp only [imageeditorlaw24_WandRegions.j7] at H
                 by_cases c160 : x168_152 = true
                 ·subst c160
                  have H1 : (some false) = some r := by rw [if_pos rfl] at H; exact H
                  clear H
                  have H := H1
                  clear H1
                  as_aux_lemma =>
                   exact absurd HT.out (by rw [← Option.some.inj H]; decide)
                 ·replace c160 := Bool.eq_false_iff.mpr c160
                  subst c160
                  have H1 : (imageeditorlaw24_WandRegions.l0 kj152 (t644.length : Int) 0 t642 t643 t644 t649 t650 t651 t656 t657 t658) = some r := by rw [if_neg (show ¬ (false = true) by decide)] at H; exact H
                  clear H
                  have H := H1
                  clear H1
                  have H' := Aside0.mk H
                  clear H
                  obtain ⟨hcz161_0, hcz161_1, hcz161_2, hfz161_0, hfz161_1, hfz161_2⟩ := zq3 BK648
                  go_wp2
                  go_loopg [172] kj152 (fun kq v172 w' => ∃ (x172_8 : Int), v172 = .int .i64 x172_8 ∧ Aside0 (imageeditorlaw24_WandRegions.l0 kq (t644.length : Int) x172_8 t642 t643 t644 t649 t650 t651 t656 t657 t658 = some r) ∧ Aside0 (kq ≤ kj152) ∧ Aside0 (Kd.R (Kd.int .i64) 3 w' w.heap.size (fun _ => True) (.slice Ao30 t630.length co30) t630) ∧ Aside0 (Kd.R (Kd.int .i64) 3 w' w.heap.size (fun _ => True) (.slice Ao40 t637.length co40) t637) ∧ Aside0 (Kd.R (Kd.int .i64) 3 w' w.heap.size (fun _ => True) (.slice Ao51 t644.length co51) t644) ∧ Aside0 (Kd.R (Kd.int .i64) 3 w' w.heap.size (fun _ => True) (.slice Ao63 t651.length co63) t651) ∧ Aside0 (Kd.R (Kd.int .i64) 3 w' w.heap.size (fun _ => True) (.slice Ao91 t658.length co91) t658) ∧ Aside0 (w'.heap[gb624]? = some (.cells #[.int .i64 a0_0, .int .i64 a0_1, (.slice A0_2 l0_2.length c0_2)] 24 (0, 0))) ∧ Aside0 (w'.heap[gb626]? = some (.cells #[.int .i64 a2_0, .int .i64 a2_1] 26 (0, 0))) ∧ Aside0 (w'.heap[gb634]? = some (.cells #[.int .i64 t628, .int .i64 t629, (.slice Ao30 t630.length co30)] 29 (0, 0))) ∧ Aside0 (w'.heap[gb641]? = some (.cells #[.int .i64 t635, .int .i64 t636, (.slice Ao40 t637.length co40)] 29 (0, 0))) ∧ Aside0 (w'.heap[gb648]? = some (.cells #[.int .i64 t642, .int .i64 t643, (.slice Ao51 t644.length co51)] 29 (0, 0))) ∧ Aside0 (w'.heap[gb655]? = some (.cells #[.int .i64 t649, .int .i64 t650, (.slice Ao63 t651.length co63)] 29 (0, 0))) ∧ Aside0 (w'.heap[gb662]? = some (.cells #[.int .i64 t656, .int .i64 t657, (.slice Ao91 t658.length co91)] 29 (0, 0))) ∧ Aside0 (Below w.heap.size w w'))
                  case atStart => exact ⟨(0), (by first | rfl | (simp; done) | (simp [*]; done)), H', ⟨Nat.le_refl _⟩, ⟨by exact zr0 HO_635002⟩, ⟨by exact zr0 HO_642002⟩, ⟨by exact zr0 HO_649002⟩, ⟨by exact zr0 HO_656002⟩, ⟨by exact zr0 HO_663002⟩, ⟨by exact zk0 BK624⟩, ⟨by exact zk0 BK626⟩, ⟨by exact zk0 BK634⟩, ⟨by exact zk0 BK641⟩, ⟨by exact zk0 BK648⟩, ⟨by exact zk0 BK655⟩, ⟨by exact zk0 BK662⟩, ⟨by exact zb0 HB⟩⟩
                  case round =>
                   clear H'
                   try clear c1
                   try clear c2
                   try clear p2
                   try clear q2
                   try clear c3
                   try clear q3
                   try clear c4
                   try clear c5
                   try clear c6
                   try clear p6
                   try clear q6
                   try clear hx6
                   try clear c7
                   try clear c8
                   try clear c9
                   try clear c10
                   try clear c10b0
                   try clear c11
                   try clear c12
                   try clear c13
                   try clear c14
                   try clear c15
                   try clear c16
                   try clear c19
                   try clear c20
                   try clear c22
                   try clear c26
                   try clear c27
                   try clear c28
                   try clear c35
                   try clear c36
                   try clear c37
                   try clear c38
                   try clear c45
                   try clear c46
                   try clear c47
                   try clear c48
                   try clear c49
                   try clear c56
                   try clear c57
                   try clear c58
                   try clear c59
                   try clear c60
                   try clear c61
                   try clear c64
                   try clear c64b0
                   try clear p64
                   try clear c66
                   try clear p66
                   try clear q66
                   try clear hx66
                   try clear c69
                   try clear c70
                   try clear c71
                   try clear c72
                   try clear c73
                   try clear c74
                   try clear c76
                   try clear c77
                   try clear c78
                   try clear c79
                   try clear c80
                   try clear c84
                   try clear c85
                   try clear c86
                   try clear c87
                   try clear c88
                   try clear c89
                   try clear c92
                   try clear c92b0
                   try clear c92b1
                   try clear c94
                   try clear c96
                   try clear c96b0
                   try clear c96b1
                   try clear c96b2
                   try clear c97
                   try clear c97b0
                   try clear c97b1
                   try clear c97b2
                   try clear c99
                   try clear c99b0
                   try clear c99b1
                   try clear c100
                   try clear c100b0
                   try clear c106
                   try clear c106b0
                   try clear c113
                   try clear c113b0
                   try clear c135
                   try clear c137
                   try clear c137b0
                   try clear c138
                   try clear c138b0
                   try clear c139
                   try clear c139b0
                   try clear c139b1
                   try clear c144
                   try clear c151
                   try clear c151b0
                   try clear c151b1
                   try clear c152
                   try clear c154
                   try clear c154b0
                   try clear c154b1
                   try clear c154b2
                   try clear c160
                   try clear hcz101_0
                   try clear hcz101_1
                   try clear hcz101_2
                   try clear hcz102_0
                   try clear hcz102_1
                   try clear hcz102_2
                   try clear hcz103_0
                   try clear hcz103_1
                   try clear hcz103_2
                   try clear hcz105_0
                   try clear hcz105_1
                   try clear hcz107_0
                   try clear hcz107_1
                   try clear hcz107_2
                   try clear hcz108_0
                   try clear hcz108_1
                   try clear hcz108_2
                   try clear hcz109_0
                   try clear hcz109_1
                   try clear hcz109_2
                   try clear hcz111_0
                   try clear hcz111_1
                   try clear hcz112_0
                   try clear hcz112_1
                   try clear hcz112_2
                   try clear hcz114_0
                   try clear hcz114_1
                   try clear hcz114_2
                   try clear hcz115_0
                   try clear hcz115_1
                   try clear hcz115_2
                   try clear hcz116_0
                   try clear hcz116_1
                   try clear hcz116_2
                   try clear hcz118_0
                   try clear hcz118_1
                   try clear hcz119_0
                   try clear hcz119_1
                   try clear hcz119_2
                   try clear hcz120_0
                   try clear hcz120_1
                   try clear hcz120_2
                   try clear hcz121_0
                   try clear hcz121_1
                   try clear hcz121_2
                   try clear hcz122_0
                   try clear hcz122_1
                   try clear hcz122_2
                   try clear hcz124_0
                   try clear hcz124_1
                   try clear hcz125_0
                   try clear hcz125_1
                   try clear hcz125_2
                   try clear hcz126_0
                   try clear hcz126_1
                   try clear hcz126_2
                   try clear hcz127_0
                   try clear hcz127_1
                   try clear hcz127_2
                   try clear hcz128_0
                   try clear hcz128_1
                   try clear hcz128_2
                   try clear hcz130_0
                   try clear hcz130_1
                   try clear hcz130_2
                   try clear hcz131_0
                   try clear hcz131_1
                   try clear hcz131_2
                   try clear hcz132_0
                   try clear hcz132_1
                   try clear hcz132_2
                   try clear hcz133_0
                   try clear hcz133_1
                   try clear hcz133_2
                   try clear hcz134_0
                   try clear hcz134_1
                   try clear hcz134_2
                   try clear hcz140_0
                   try clear hcz140_1
                   try clear hcz140_2
                   try clear hcz141_0
                   try clear hcz141_1
                   try clear hcz142_0
                   try clear hcz142_1
                   try clear hcz142_2
                   try clear hcz145_0
                   try clear hcz145_1
                   try clear hcz145_2
                   try clear hcz146_0
                   try clear hcz146_1
                   try clear hcz147_0
                   try clear hcz147_1
                   try clear hcz147_2
                   try clear hcz148_0
                   try clear hcz148_1
                   try clear hcz148_2
                   try clear hcz155_0
                   try clear hcz155_1
                   try clear hcz155_2
                   try clear hcz156_0
                   try clear hcz156_1
                   try clear hcz156_2
                   try clear hcz157_0
                   try clear hcz157_1
                   try clear hcz157_2
                   try clear hcz158_0
                   try clear hcz158_1
                   try clear hcz158_2
                   try clear hcz159_0
                   try clear hcz159_1
                   try clear hcz159_2
                   try clear hcz161_0
                   try clear hcz161_1
                   try clear hcz161_2
                   try clear hcz21_0
                   try clear hcz21_1
                   try clear hcz21_2
                   try clear hcz23_0
                   try clear hcz23_1
                   try clear hcz29_0
                   try clear hcz29_1
                   try clear hcz29_2
                   try clear hcz31_0
                   try clear hcz31_1
                   try clear hcz31_2
                   try clear hcz32_0
                   try clear hcz32_1
                   try clear hcz39_0
                   try clear hcz39_1
                   try clear hcz39_2
                   try clear hcz41_0
                   try clear hcz41_1
                   try clear hcz41_2
                   try clear hcz42_0
                   try clear hcz42_1
                   try clear hcz50_0
                   try clear hcz50_1
                   try clear hcz50_2
                   try clear hcz52_0
                   try clear hcz52_1
                   try clear hcz52_2
                   try clear hcz53_0
                   try clear hcz53_1
                   try clear hcz62_0
                   try clear hcz62_1
                   try clear hcz62_2
                   try clear hcz75_0
                   try clear hcz75_1
                   try clear hcz75_2
                   try clear hcz81_0
                   try clear hcz81_1
                   try clear hcz90_0
                   try clear hcz90_1
                   try clear hcz90_2
                   try clear hfz101_0
                   try clear hfz101_1
                   try clear hfz101_2
                   try clear hfz102_0
                   try clear hfz102_1
                   try clear hfz102_2
                   try clear hfz103_0
                   try clear hfz103_1
                   try clear hfz103_2
                   try clear hfz105_0
                   try clear hfz105_1
                   try clear hfz107_0
                   try clear hfz107_1
                   try clear hfz107_2
                   try clear hfz108_0
                   try clear hfz108_1
                   try clear hfz108_2
                   try clear hfz109_0
                   try clear hfz109_1
                   try clear hfz109_2
                   try clear hfz111_0
                   try clear hfz111_1
                   try clear hfz112_0
                   try clear hfz112_1
                   try clear hfz112_2
                   try clear hfz114_0
                   try clear hfz114_1
                   try clear hfz114_2
                   try clear hfz115_0
                   try clear hfz115_1
                   try clear hfz115_2
                   try clear hfz116_0
                   try clear hfz116_1
                   try clear hfz116_2
                   try clear hfz118_0
                   try clear hfz118_1
                   try clear hfz119_0
                   try clear hfz119_1
                   try clear hfz119_2
                   try clear hfz120_0
                   try clear hfz120_1
                   try clear hfz120_2
                   try clear hfz121_0
                   try clear hfz121_1
                   try clear hfz121_2
                   try clear hfz122_0
                   try clear hfz122_1
                   try clear hfz122_2
                   try clear hfz124_0
                   try clear hfz124_1
                   try clear hfz125_0
                   try clear hfz125_1
                   try clear hfz125_2
                   try clear hfz126_0
                   try clear hfz126_1
                   try clear hfz126_2
                   try clear hfz127_0
                   try clear hfz127_1
                   try clear hfz127_2
                   try clear hfz128_0
                   try clear hfz128_1
                   try clear hfz128_2
                   try clear hfz130_0
                   try clear hfz130_1
                   try clear hfz130_2
                   try clear hfz131_0
                   try clear hfz131_1
                   try clear hfz131_2
                   try clear hfz132_0
                   try clear hfz132_1
                   try clear hfz132_2
                   try clear hfz133_0
                   try clear hfz133_1
                   try clear hfz133_2
                   try clear hfz134_0
                   try clear hfz134_1
                   try clear hfz134_2
                   try clear hfz140_0
                   try clear hfz140_1
                   try clear hfz140_2
                   try clear hfz141_0
                   try clear hfz141_1
                   try clear hfz142_0
                   try clear hfz142_1
                   try clear hfz142_2
                   try clear hfz145_0
                   try clear hfz145_1
                   try clear hfz145_2
                   try clear hfz146_0
                   try clear hfz146_1
                   try clear hfz147_0
                   try clear hfz147_1
                   try clear hfz147_2
                   try clear hfz148_0
                   try clear hfz148_1
                   try clear hfz148_2
                   try clear hfz155_0
                   try clear hfz155_1
                   try clear hfz155_2
                   try clear hfz156_0
                   try clear hfz156_1
                   try clear hfz156_2
                   try clear hfz157_0
                   try clear hfz157_1
                   try clear hfz157_2
                   try clear hfz158_0
                   try clear hfz158_1
                   try clear hfz158_2
                   try clear hfz159_0
                   try clear hfz159_1
                   try clear hfz159_2
                   try clear hfz161_0
                   try clear hfz161_1
                   try clear hfz161_2
                   try clear hfz21_0
                   try clear hfz21_1
                   try clear hfz21_2
                   try clear hfz23_0
                   try clear hfz23_1
                   try clear hfz29_0
                   try clear hfz29_1
                   try clear hfz29_2
                   try clear hfz31_0
                   try clear hfz31_1
                   try clear hfz31_2
                   try clear hfz32_0
                   try clear hfz32_1
                   try clear hfz39_0
                   try clear hfz39_1
                   try clear hfz39_2
                   try clear hfz41_0
                   try clear hfz41_1
                   try clear hfz41_2
                   try clear hfz42_0
                   try clear hfz42_1
                   try clear hfz50_0
                   try clear hfz50_1
                   try clear hfz50_2
                   try clear hfz52_0
                   try clear hfz52_1
                   try clear hfz52_2
                   try clear hfz53_0
                   try clear hfz53_1
                   try clear hfz62_0
                   try clear hfz62_1
                   try clear hfz62_2
                   try clear hfz75_0
                   try clear hfz75_1
                   try clear hfz75_2
                   try clear hfz81_0
                   try clear hfz81_1
                   try clear hfz90_0
                   try clear hfz90_1
                   try clear hfz90_2
                   try clear hx664_0
                   try clear p2
                   try clear p6
                   try clear p64
                   try clear p66
                   try clear p664
                   try clear q2
                   try clear q3
                   try clear q6
                   try clear q66
                   try clear q664
                   obtain ⟨x172_8, rfl, HA, HK8, HO_635002, HO_642002, HO_649002, HO_656002, HO_663002, BK624, BK626, BK634, BK641, BK648, BK655, BK662, HB⟩ := hrel
                   cases gk with
                   | zero => exact absurd HA.out (by simp [imageeditorlaw24_WandRegions.l0])
                   | succ k8 =>
                    have H := HA.out
                    clear HA
                    simp only [imageeditorlaw24_WandRegions.l0] at H
                    by_cases c162 : x172_8 < (t644.length : Int)
                    ·rw [if_pos c162] at H
                     have c162b0 : decide (x172_8 < (t644.length : Int)) = true := decide_eq_true c162
                     clear c162
                     by_cases c163 : 0 ≤ x172_8
                     ·rw [if_pos c163] at H
                      have c163b0 : decide (0 ≤ x172_8) = true := decide_eq_true c163
                      clear c163
                      by_cases c164 : x172_8 < (t644.length : Int)
                      ·rw [if_pos c164] at H
                       have c164b0 : decide (x172_8 < (t644.length : Int)) = true := decide_eq_true c164
                       clear c164
                       by_cases c165 : (rd t644 x172_8) = 0
                       ·rw [if_pos c165] at H
                        have c165b0 : ((rd t644 x172_8) == 0) = true := beq_iff_eq.mpr c165
                        have c165b1 : ((rd t644 x172_8) != 0) = false := bne_eq_false_iff_eq.mpr c165
                        clear c165
                        as_aux_lemma =>
                         have H' := Aside0.mk H
                         clear H
                         obtain ⟨hcz166_0, hcz166_1, hcz166_2, hfz166_0, hfz166_1, hfz166_2⟩ := zq3 BK648
                         have p666 : 0 ≤ (x172_8 : Int) := of_decide_eq_true (by first | (with_reducible assumption) | assumption)
                         have q666 : x172_8 < (t644.length : Int) := of_decide_eq_true (by first | (with_reducible assumption) | assumption)
                         obtain ⟨ad666, e666, hx666_0⟩ := Kd.at_int (Kd.R_reads' HO_649002.out).2.2 x172_8 p666 q666
                         cases e666
                         replace p666 := eq_true p666
                         replace q666 := eq_true q666
                         go_wp2
                         go_roundg k8
                         case measure => have := HJ5.out; have := HJ17.out; have := HJ64.out; have := HJ67.out; have := HJ92.out; have := HJ149.out; have := HJ152.out; have := HK8.out; omega
                         case rel => exact ⟨(wrap64 (x172_8 + 1)), (by first | rfl | (simp; done) | (simp [*]; done)), H', ⟨by have := HJ5.out; have := HJ17.out; have := HJ64.out; have := HJ67.out; have := HJ92.out; have := HJ149.out; have := HJ152.out; have := HK8.out; omega⟩, ⟨by exact zr0 HO_635002⟩, ⟨by exact zr0 HO_642002⟩, ⟨by exact zr0 HO_649002⟩, ⟨by exact zr0 HO_656002⟩, ⟨by exact zr0 HO_663002⟩, ⟨by exact zk0 BK624⟩, ⟨by exact zk0 BK626⟩, ⟨by exact zk0 BK634⟩, ⟨by exact zk0 BK641⟩, ⟨by exact zk0 BK648⟩, ⟨by exact zk0 BK655⟩, ⟨by exact zk0 BK662⟩, ⟨by exact zb0 HB⟩⟩
                       ·rw [if_neg c165] at H
                        have c165b0 : ((rd t644 x172_8) == 0) = false := beq_eq_false_iff_ne.mpr c165
                        have c165b1 : ((rd t644 x172_8) != 0) = true := bne_iff_ne.mpr c165
                        by_cases c167 : x172_8 < (t651.length : Int)
                        ·rw [if_pos c167] at H
                         have c167b0 : decide (x172_8 < (t651.length : Int)) = true := decide_eq_true c167
                         clear c167
                         by_cases c168 : (rd t651 x172_8) = 0
                         ·rw [if_pos c168] at H
                          have c168b0 : ((rd t651 x172_8) == 0) = true := beq_iff_eq.mpr c168
                          have c168b1 : ((rd t651 x172_8) != 0) = false := bne_eq_false_iff_eq.mpr c168
                          clear c168
                          as_aux_lemma =>
                           exact absurd HT.out (by rw [← Option.some.inj H]; decide)
                         ·rw [if_neg c168] at H
                          have c168b0 : ((rd t651 x172_8) == 0) = false := beq_eq_false_iff_ne.mpr c168
                          have c168b1 : ((rd t651 x172_8) != 0) = true := bne_iff_ne.mpr c168
                          by_cases c169 : x172_8 < (t658.length : Int)
                          ·rw [if_pos c169] at H
                           have c169b0 : decide (x172_8 < (t658.length : Int)) = true := decide_eq_true c169
                           clear c169
                           by_cases c170 : (rd t658 x172_8) = 0
                           ·rw [if_pos c170] at H
                            have c170b0 : ((rd t658 x172_8) == 0) = true := beq_iff_eq.mpr c170
                            have c170b1 : ((rd t658 x172_8) != 0) = false := bne_eq_false_iff_eq.mpr c170
                            clear c170
                            as_aux_lemma =>
                             exact absurd HT.out (by rw [← Option.some.inj H]; decide)
                           ·rw [if_neg c170] at H
                            have c170b0 : ((rd t658 x172_8) == 0) = false := beq_eq_false_iff_ne.mpr c170
                            have c170b1 : ((rd t658 x172_8) != 0) = true := bne_iff_ne.mpr c170
                            as_aux_lemma =>
                             have H' := Aside0.mk H
                             clear H
                             obtain ⟨hcz171_0, hcz171_1, hcz171_2, hfz171_0, hfz171_1, hfz171_2⟩ := zq3 BK648
                             have p666 : 0 ≤ (x172_8 : Int) := of_decide_eq_true (by first | (with_reducible assumption) | assumption)
                             have q666 : x172_8 < (t644.length : Int) := of_decide_eq_true (by first | (with_reducible assumption) | assumption)
                             obtain ⟨ad666, e666, hx666_0⟩ := Kd.at_int (Kd.R_reads' HO_649002.out).2.2 x172_8 p666 q666
                             cases e666
                             replace p666 := eq_true p666
                             replace q666 := eq_true q666
                             obtain ⟨hcz172_0, hcz172_1, hcz172_2, hfz172_0, hfz172_1, hfz172_2⟩ := zq3 BK655
                             have p667 : 0 ≤ (x172_8 : Int) := of_decide_eq_true (by first | (with_reducible assumption) | assumption)
                             have q667 : x172_8 < (t651.length : Int) := of_decide_eq_true (by first | (with_reducible assumption) | assumption)
                             obtain ⟨ad667, e667, hx667_0⟩ := Kd.at_int (Kd.R_reads' HO_656002.out).2.2 x172_8 p667 q667
                             cases e667
                             replace p667 := eq_true p667
                             replace q667 := eq_true q667
                             obtain ⟨hcz173_0, hcz173_1, hcz173_2, hfz173_0, hfz173_1, hfz173_2⟩ := zq3 BK662
                             have p668 : 0 ≤ (x172_8 : Int) := of_decide_eq_true (by first | (with_reducible assumption) | assumption)
                             have q668 : x172_8 < (t658.length : Int) := of_decide_eq_true (by first | (with_reducible assumption) | assumption)
                             obtain ⟨ad668, e668, hx668_0⟩ := Kd.at_int (Kd.R_reads' HO_663002.out).2.2 x172_8 p668 q668
                             cases e668
                             replace p668 := eq_true p668
                             replace q668 := eq_true q668
                             go_wp2
                             go_roundg k8
                             case measure => have := HJ5.out; have := HJ17.out; have := HJ64.out; have := HJ67.out; have := HJ92.out; have := HJ149.out; have := HJ152.out; have := HK8.out; omega
                             case rel => exact ⟨(wrap64 (x172_8 + 1)), (by first | rfl | (simp; done) | (simp [*]; done)), H', ⟨by have := HJ5.out; have := HJ17.out; have := HJ64.out; have := HJ67.out; have := HJ92.out; have := HJ149.out; have := HJ152.out; have := HK8.out; omega⟩, ⟨by exact zr0 HO_635002⟩, ⟨by exact zr0 HO_642002⟩, ⟨by exact zr0 HO_649002⟩, ⟨by exact zr0 HO_656002⟩, ⟨by exact zr0 HO_663002⟩, ⟨by exact zk0 BK624⟩, ⟨by exact zk0 BK626⟩, ⟨by exact zk0 BK634⟩, ⟨by exact zk0 BK641⟩, ⟨by exact zk0 BK648⟩, ⟨by exact zk0 BK655⟩, ⟨by exact zk0 BK662⟩, ⟨by exact zb0 HB⟩⟩
                          ·rw [if_neg c169] at H
                           exact absurd H (by simp)
                        ·rw [if_neg c167] at H
                         exact absurd H (by simp)
                      ·rw [if_neg c164] at H
                       exact absurd H (by simp)
                     ·rw [if_neg c163] at H
                      exact absurd H (by simp)
                    ·rw [if_neg c162] at H
                     have c162b0 : decide (x172_8 < (t644.length : Int)) = false := decide_eq_false c162
                     clear c162
                     replace H := Option.bind_eq_some_iff.mp H
                     obtain ⟨t669, A1740, H⟩ := H
                     replace H : (some t669) = some r := H
                     have A174 := Aside0.mk A1740
                     clear A1740
                     as_aux_lemma =>
                      obtain rfl := Option.some.inj H
                      (try clear HO_635002)
                      (try clear HO_642002)
                      (try clear HO_649002)
                      (try clear HO_656002)
                      (try clear HO_663002)
                      (try clear BK624)
                      (try clear BK626)
                      (try clear BK634)
                      (try clear BK641)
                      (try clear BK648)
                      (try clear BK655)
                      (try clear BK662)
                      go_wp2_with (first | ((with_reducible refine gate_callee (f := 12) rfl ?_); refine goesL_ (some 198) rfl rfl Try.func12 (by kernel_rfl) rfl #[] rfl (by (try simp only [List.map_toArray, List.map_cons, List.map_nil]); first | done | rfl | (simp only [List.length_drop, List.length_take]; rfl)) ?_; (with_reducible refine (imageeditorlaw24_awake.calls k8  t669 _ A174.out).mono ?_); rintro e w175 ⟨rfl, hb⟩; refine ⟨_, rfl, ?_⟩; replace HB := zb HB hb; (try clear hb); (try clear hb2); (try clear hk); (try clear hi)))
                      go_ret
                      exact ⟨by first | rfl | (simp [errW_none, errW_some] <;> rfl) | (simp [*, errW_none, errW_some] <;> rfl), by exact zb0 HB⟩

end Go.Proofs.Ytmmncannibnklaa.G
