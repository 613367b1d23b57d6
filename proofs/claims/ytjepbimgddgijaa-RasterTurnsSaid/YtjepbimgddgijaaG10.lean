/- Contracts of functions of the program, each as it is called: what it computes (.f), that it computes no less with more rounds (.mono), and that a call returns just that (.calls). No conditions but those that each contract names. Written by a program of this session (wip/gx.py over the kit's print). -/
import Derived.Test.YtjepbimgddgijaaG0
import Derived.Test.YtjepbimgddgijaaG1
import Derived.Test.YtjepbimgddgijaaG4
import Derived.Test.YtjepbimgddgijaaG5
import Derived.Test.YtjepbimgddgijaaG6
import Derived.Test.YtjepbimgddgijaaG8
import Derived.Test.YtjepbimgddgijaaG9
namespace Go.Proofs.Ytjepbimgddgijaa.G
open Go.RowKit Go.Proofs.YtjepbimgddgijaaW.PrintWords Go.Proofs.YtjepbimgddgijaaW.PrintLast Go.Proofs.YtjepbimgddgijaaW.PrintMore
attribute [local go_sem] max2_int min2_int max_two min_two max_three min_three max_four min_four   -- for this text's walks alone
set_option linter.unusedVariables false
set_option linter.unusedSimpArgs false


attribute [local go_sem high] eqA26 eqA37
/-! ### imageeditorlaw11_awake: function 17 -/
mutual
def imageeditorlaw11_awake.j0 : Nat → Bool → Int → Int → Int → Int → Int → Int → Int → Int → Int → Int → Int → Int → Int → Int → List (S26) → Option (Bool)
 | 0, _, _, _, _, _, _, _, _, _, _, _, _, _, _, _, _ => none
 | k + 1, x57, x419000, x419001, x419002, x419003, x420000, x420001, x420002, x420003, x421000, x421001, x421002, x421003, x425000, x425001, x425002 => if x57 = true then (some false) else ((raster_Edge.f k x425000 x425001 x425002 5 9).bind fun bt446 => (if (!(bt446.1 == x420000) || (!(bt446.2.1 == x420001) || (!(bt446.2.2.1 == x420002) || (!(bt446.2.2.2 == x420003))))) = true then (imageeditorlaw11_awake.j1 k true x419000 x419001 x419002 x419003 x420000 x420001 x420002 x420003 x421000 x421001 x421002 x421003 x425000 x425001 x425002) else ((raster_Edge.f k x425000 x425001 x425002 (-5) 0).bind fun bt450 => (if (!(bt450.1 == x419000) || (!(bt450.2.1 == x419001) || (!(bt450.2.2.1 == x419002) || (!(bt450.2.2.2 == x419003))))) = true then (imageeditorlaw11_awake.j1 k true x419000 x419001 x419002 x419003 x420000 x420001 x420002 x420003 x421000 x421001 x421002 x421003 x425000 x425001 x425002) else ((raster_At.f k x425000 x425001 x425002 2 0).bind fun bt454 => (if (!(bt454.1 == 0) || (!(bt454.2.1 == 0) || (!(bt454.2.2.1 == 0) || (!(bt454.2.2.2 == 0))))) = true then (imageeditorlaw11_awake.j1 k true x419000 x419001 x419002 x419003 x420000 x420001 x420002 x420003 x421000 x421001 x421002 x421003 x425000 x425001 x425002) else ((raster_At.f k x425000 x425001 x425002 1 0).bind fun bt458 => (imageeditorlaw11_awake.j1 k (!(bt458.1 == x420000) || (!(bt458.2.1 == x420001) || (!(bt458.2.2.1 == x420002) || (!(bt458.2.2.2 == x420003))))) x419000 x419001 x419002 x419003 x420000 x420001 x420002 x420003 x421000 x421001 x421002 x421003 x425000 x425001 x425002))))))))
def imageeditorlaw11_awake.j1 : Nat → Bool → Int → Int → Int → Int → Int → Int → Int → Int → Int → Int → Int → Int → Int → Int → List (S26) → Option (Bool)
 | 0, _, _, _, _, _, _, _, _, _, _, _, _, _, _, _, _ => none
 | k + 1, x79, x419000, x419001, x419002, x419003, x420000, x420001, x420002, x420003, x421000, x421001, x421002, x421003, x425000, x425001, x425002 => if x79 = true then (some false) else ((raster_Crop.f k x425000 x425001 x425002 1 (-1) 2 2).bind fun bt462 => (if bt462.2.2.2 = 0 then ((imageeditorlaw11_same.f k bt462.1 bt462.2.1 bt462.2.2.1 2 2 (([(⟨0, 0, 0, 0⟩ : S26), (⟨0, 0, 0, 0⟩ : S26), (⟨x420000, x420001, x420002, x420003⟩ : S26), (⟨0, 0, 0, 0⟩ : S26)] : List (S26)))).bind fun t472 => (imageeditorlaw11_awake.j2 k (!t472) x419000 x419001 x419002 x419003 x420000 x420001 x420002 x420003 x421000 x421001 x421002 x421003 x425000 x425001 x425002)) else (imageeditorlaw11_awake.j2 k true x419000 x419001 x419002 x419003 x420000 x420001 x420002 x420003 x421000 x421001 x421002 x421003 x425000 x425001 x425002)))
def imageeditorlaw11_awake.j2 : Nat → Bool → Int → Int → Int → Int → Int → Int → Int → Int → Int → Int → Int → Int → Int → Int → List (S26) → Option (Bool)
 | 0, _, _, _, _, _, _, _, _, _, _, _, _, _, _, _, _ => none
 | k + 1, x98, x419000, x419001, x419002, x419003, x420000, x420001, x420002, x420003, x421000, x421001, x421002, x421003, x425000, x425001, x425002 => if x98 = true then (some false) else ((raster_Flip.f k x425000 x425001 x425002 3).bind fun bt473 => (if bt473.2.2.2 = 0 then ((imageeditorlaw11_same.f k bt473.1 bt473.2.1 bt473.2.2.1 1 2 (([(⟨x419000, x419001, x419002, x419003⟩ : S26), (⟨x420000, x420001, x420002, x420003⟩ : S26)] : List (S26)))).bind fun t482 => (imageeditorlaw11_awake.j3 k (!t482) x419000 x419001 x419002 x419003 x421000 x421001 x421002 x421003 x425000 x425001 x425002)) else (imageeditorlaw11_awake.j3 k true x419000 x419001 x419002 x419003 x421000 x421001 x421002 x421003 x425000 x425001 x425002)))
def imageeditorlaw11_awake.j3 : Nat → Bool → Int → Int → Int → Int → Int → Int → Int → Int → Int → Int → List (S26) → Option (Bool)
 | 0, _, _, _, _, _, _, _, _, _, _, _, _ => none
 | k + 1, x114, x419000, x419001, x419002, x419003, x421000, x421001, x421002, x421003, x425000, x425001, x425002 => if x114 = true then (some false) else ((raster_Put.f k x425000 x425001 x425002 1 1 (([(⟨x421000, x421001, x421002, x421003⟩ : S26)] : List (S26))) 1 0).bind fun bt486 => (if bt486.2.2.2 = 0 then ((imageeditorlaw11_same.f k bt486.1 bt486.2.1 bt486.2.2.1 2 1 (([(⟨x419000, x419001, x419002, x419003⟩ : S26), (⟨x421000, x421001, x421002, x421003⟩ : S26)] : List (S26)))).bind fun t495 => (if t495 = true then ((raster_Box.f k x425000 x425001 x425002).bind fun bt496 => (imageeditorlaw11_awake.j4 k (!(bt496.1 == 0) || (!(bt496.2.1 == 0) || (!(bt496.2.2.1 == 2) || (!(bt496.2.2.2 == 1))))) x425000 x425001 x425002)) else (imageeditorlaw11_awake.j4 k true x425000 x425001 x425002))) else (imageeditorlaw11_awake.j4 k true x425000 x425001 x425002)))
def imageeditorlaw11_awake.j4 : Nat → Bool → Int → Int → List (S26) → Option (Bool)
 | 0, _, _, _, _ => none
 | k + 1, x140, x425000, x425001, x425002 => if x140 = true then (some false) else ((raster_Join.f k 2 1 (([(⟨x425000, x425001, x425002⟩ : S24)] : List (S24)))).bind fun bt503 => (if bt503.2.2.2 = 0 then ((imageeditorlaw11_same.f k bt503.1 bt503.2.1 bt503.2.2.1 x425000 x425001 x425002).bind fun t509 => (some t509)) else (some false)))
end
def imageeditorlaw11_awake.f (k : Nat)  : Option (Bool) := (some (([(⟨1, 0, 0, 9⟩ : S26), (⟨0, 2, 0, 8⟩ : S26)] : List (S26)) : List (S26))).bind fun y421 => ((raster_New.f k 2 0 1 0 0 9).bind fun bt425 => ((raster_New.f k 2 1 0 0 3 7).bind fun bt432 => (if bt425.2.2.2 = 15 then (if bt432.2.2.2 = 0 then ((imageeditorlaw11_same.f k bt432.1 bt432.2.1 bt432.2.2.1 2 1 (([(⟨0, 0, 3, 7⟩ : S26), (⟨0, 0, 3, 7⟩ : S26)] : List (S26)))).bind fun t442 => (if t442 = true then ((raster_Check.f k 2 1 y421).bind fun t443 => (if t443 = 0 then ((raster_Same.f k 2 1 y421 bt432.1 bt432.2.1 bt432.2.2.1).bind fun t444 => (if t444 = true then (imageeditorlaw11_awake.j0 k true 1 0 0 9 0 2 0 8 0 0 3 7 2 1 y421) else ((raster_Same.f k 2 1 y421 2 1 y421).bind fun t445 => (imageeditorlaw11_awake.j0 k (!t445) 1 0 0 9 0 2 0 8 0 0 3 7 2 1 y421)))) else (imageeditorlaw11_awake.j0 k true 1 0 0 9 0 2 0 8 0 0 3 7 2 1 y421))) else (imageeditorlaw11_awake.j0 k true 1 0 0 9 0 2 0 8 0 0 3 7 2 1 y421))) else (imageeditorlaw11_awake.j0 k true 1 0 0 9 0 2 0 8 0 0 3 7 2 1 y421)) else (imageeditorlaw11_awake.j0 k true 1 0 0 9 0 2 0 8 0 0 3 7 2 1 y421))))
theorem imageeditorlaw11_awake.mono_l : ∀ k, (∀ y0 y1 y2 y3 y4 y5 y6 y7 y8 y9 y10 y11 y12 y13 y14 y15, LeO (imageeditorlaw11_awake.j0 k y0 y1 y2 y3 y4 y5 y6 y7 y8 y9 y10 y11 y12 y13 y14 y15) (imageeditorlaw11_awake.j0 (k + 1) y0 y1 y2 y3 y4 y5 y6 y7 y8 y9 y10 y11 y12 y13 y14 y15)) ∧ (∀ y0 y1 y2 y3 y4 y5 y6 y7 y8 y9 y10 y11 y12 y13 y14 y15, LeO (imageeditorlaw11_awake.j1 k y0 y1 y2 y3 y4 y5 y6 y7 y8 y9 y10 y11 y12 y13 y14 y15) (imageeditorlaw11_awake.j1 (k + 1) y0 y1 y2 y3 y4 y5 y6 y7 y8 y9 y10 y11 y12 y13 y14 y15)) ∧ (∀ y0 y1 y2 y3 y4 y5 y6 y7 y8 y9 y10 y11 y12 y13 y14 y15, LeO (imageeditorlaw11_awake.j2 k y0 y1 y2 y3 y4 y5 y6 y7 y8 y9 y10 y11 y12 y13 y14 y15) (imageeditorlaw11_awake.j2 (k + 1) y0 y1 y2 y3 y4 y5 y6 y7 y8 y9 y10 y11 y12 y13 y14 y15)) ∧ (∀ y0 y1 y2 y3 y4 y5 y6 y7 y8 y9 y10 y11, LeO (imageeditorlaw11_awake.j3 k y0 y1 y2 y3 y4 y5 y6 y7 y8 y9 y10 y11) (imageeditorlaw11_awake.j3 (k + 1) y0 y1 y2 y3 y4 y5 y6 y7 y8 y9 y10 y11)) ∧ (∀ y0 y1 y2 y3, LeO (imageeditorlaw11_awake.j4 k y0 y1 y2 y3) (imageeditorlaw11_awake.j4 (k + 1) y0 y1 y2 y3))
 | 0 => ⟨fun _ _ _ _ _ _ _ _ _ _ _ _ _ _ _ _ r h => by simp [imageeditorlaw11_awake.j0] at h, fun _ _ _ _ _ _ _ _ _ _ _ _ _ _ _ _ r h => by simp [imageeditorlaw11_awake.j1] at h, fun _ _ _ _ _ _ _ _ _ _ _ _ _ _ _ _ r h => by simp [imageeditorlaw11_awake.j2] at h, fun _ _ _ _ _ _ _ _ _ _ _ _ r h => by simp [imageeditorlaw11_awake.j3] at h, fun _ _ _ _ r h => by simp [imageeditorlaw11_awake.j4] at h⟩
 | k + 1 => by
  obtain ⟨ih0, ih1, ih2, ih3, ih4⟩ := imageeditorlaw11_awake.mono_l k
  refine ⟨?_, ?_, ?_, ?_, ?_⟩
  ·intro y0 y1 y2 y3 y4 y5 y6 y7 y8 y9 y10 y11 y12 y13 y14 y15
   unfold imageeditorlaw11_awake.j0
   repeat' first
   | (with_reducible exact ih0 _ _ _ _ _ _ _ _ _ _ _ _ _ _ _ _)
   | (with_reducible exact ih1 _ _ _ _ _ _ _ _ _ _ _ _ _ _ _ _)
   | (with_reducible exact ih2 _ _ _ _ _ _ _ _ _ _ _ _ _ _ _ _)
   | (with_reducible exact ih3 _ _ _ _ _ _ _ _ _ _ _ _)
   | (with_reducible exact ih4 _ _ _ _)
   | (with_reducible exact imageeditorlaw11_same.mono _ _ _ _ _ _ _)
   | (with_reducible exact raster_At.mono _ _ _ _ _ _)
   | (with_reducible exact raster_Box.mono _ _ _ _)
   | (with_reducible exact raster_Check.mono _ _ _ _)
   | (with_reducible exact raster_Crop.mono _ _ _ _ _ _ _ _)
   | (with_reducible exact raster_Edge.mono _ _ _ _ _ _)
   | (with_reducible exact raster_Flip.mono _ _ _ _ _)
   | (with_reducible exact raster_Join.mono _ _ _ _)
   | (with_reducible exact raster_New.mono _ _ _ _ _ _ _)
   | (with_reducible exact raster_Put.mono _ _ _ _ _ _ _ _ _)
   | (with_reducible exact raster_Same.mono _ _ _ _ _ _ _)
   | (with_reducible exact LeO.refl _)
   | (with_reducible exact LeO.none _)
   | (with_reducible refine LeO.ite ?_ ?_)
   | (with_reducible refine LeO.bind ?_ (fun _ => ?_))
   | exact ih0 _ _ _ _ _ _ _ _ _ _ _ _ _ _ _ _
   | exact ih1 _ _ _ _ _ _ _ _ _ _ _ _ _ _ _ _
   | exact ih2 _ _ _ _ _ _ _ _ _ _ _ _ _ _ _ _
   | exact ih3 _ _ _ _ _ _ _ _ _ _ _ _
   | exact ih4 _ _ _ _
   | exact imageeditorlaw11_same.mono _ _ _ _ _ _ _
   | exact raster_At.mono _ _ _ _ _ _
   | exact raster_Box.mono _ _ _ _
   | exact raster_Check.mono _ _ _ _
   | exact raster_Crop.mono _ _ _ _ _ _ _ _
   | exact raster_Edge.mono _ _ _ _ _ _
   | exact raster_Flip.mono _ _ _ _ _
   | exact raster_Join.mono _ _ _ _
   | exact raster_New.mono _ _ _ _ _ _ _
   | exact raster_Put.mono _ _ _ _ _ _ _ _ _
   | exact raster_Same.mono _ _ _ _ _ _ _
   | exact LeO.none _
   | refine LeO.ite ?_ ?_
   | refine LeO.bind ?_ (fun _ => ?_)
  ·intro y0 y1 y2 y3 y4 y5 y6 y7 y8 y9 y10 y11 y12 y13 y14 y15
   unfold imageeditorlaw11_awake.j1
   repeat' first
   | (with_reducible exact ih0 _ _ _ _ _ _ _ _ _ _ _ _ _ _ _ _)
   | (with_reducible exact ih1 _ _ _ _ _ _ _ _ _ _ _ _ _ _ _ _)
   | (with_reducible exact ih2 _ _ _ _ _ _ _ _ _ _ _ _ _ _ _ _)
   | (with_reducible exact ih3 _ _ _ _ _ _ _ _ _ _ _ _)
   | (with_reducible exact ih4 _ _ _ _)
   | (with_reducible exact imageeditorlaw11_same.mono _ _ _ _ _ _ _)
   | (with_reducible exact raster_At.mono _ _ _ _ _ _)
   | (with_reducible exact raster_Box.mono _ _ _ _)
   | (with_reducible exact raster_Check.mono _ _ _ _)
   | (with_reducible exact raster_Crop.mono _ _ _ _ _ _ _ _)
   | (with_reducible exact raster_Edge.mono _ _ _ _ _ _)
   | (with_reducible exact raster_Flip.mono _ _ _ _ _)
   | (with_reducible exact raster_Join.mono _ _ _ _)
   | (with_reducible exact raster_New.mono _ _ _ _ _ _ _)
   | (with_reducible exact raster_Put.mono _ _ _ _ _ _ _ _ _)
   | (with_reducible exact raster_Same.mono _ _ _ _ _ _ _)
   | (with_reducible exact LeO.refl _)
   | (with_reducible exact LeO.none _)
   | (with_reducible refine LeO.ite ?_ ?_)
   | (with_reducible refine LeO.bind ?_ (fun _ => ?_))
   | exact ih0 _ _ _ _ _ _ _ _ _ _ _ _ _ _ _ _
   | exact ih1 _ _ _ _ _ _ _ _ _ _ _ _ _ _ _ _
   | exact ih2 _ _ _ _ _ _ _ _ _ _ _ _ _ _ _ _
   | exact ih3 _ _ _ _ _ _ _ _ _ _ _ _
   | exact ih4 _ _ _ _
   | exact imageeditorlaw11_same.mono _ _ _ _ _ _ _
   | exact raster_At.mono _ _ _ _ _ _
   | exact raster_Box.mono _ _ _ _
   | exact raster_Check.mono _ _ _ _
   | exact raster_Crop.mono _ _ _ _ _ _ _ _
   | exact raster_Edge.mono _ _ _ _ _ _
   | exact raster_Flip.mono _ _ _ _ _
   | exact raster_Join.mono _ _ _ _
   | exact raster_New.mono _ _ _ _ _ _ _
   | exact raster_Put.mono _ _ _ _ _ _ _ _ _
   | exact raster_Same.mono _ _ _ _ _ _ _
   | exact LeO.none _
   | refine LeO.ite ?_ ?_
   | refine LeO.bind ?_ (fun _ => ?_)
  ·intro y0 y1 y2 y3 y4 y5 y6 y7 y8 y9 y10 y11 y12 y13 y14 y15
   unfold imageeditorlaw11_awake.j2
   repeat' first
   | (with_reducible exact ih0 _ _ _ _ _ _ _ _ _ _ _ _ _ _ _ _)
   | (with_reducible exact ih1 _ _ _ _ _ _ _ _ _ _ _ _ _ _ _ _)
   | (with_reducible exact ih2 _ _ _ _ _ _ _ _ _ _ _ _ _ _ _ _)
   | (with_reducible exact ih3 _ _ _ _ _ _ _ _ _ _ _ _)
   | (with_reducible exact ih4 _ _ _ _)
   | (with_reducible exact imageeditorlaw11_same.mono _ _ _ _ _ _ _)
   | (with_reducible exact raster_At.mono _ _ _ _ _ _)
   | (with_reducible exact raster_Box.mono _ _ _ _)
   | (with_reducible exact raster_Check.mono _ _ _ _)
   | (with_reducible exact raster_Crop.mono _ _ _ _ _ _ _ _)
   | (with_reducible exact raster_Edge.mono _ _ _ _ _ _)
   | (with_reducible exact raster_Flip.mono _ _ _ _ _)
   | (with_reducible exact raster_Join.mono _ _ _ _)
   | (with_reducible exact raster_New.mono _ _ _ _ _ _ _)
   | (with_reducible exact raster_Put.mono _ _ _ _ _ _ _ _ _)
   | (with_reducible exact raster_Same.mono _ _ _ _ _ _ _)
   | (with_reducible exact LeO.refl _)
   | (with_reducible exact LeO.none _)
   | (with_reducible refine LeO.ite ?_ ?_)
   | (with_reducible refine LeO.bind ?_ (fun _ => ?_))
   | exact ih0 _ _ _ _ _ _ _ _ _ _ _ _ _ _ _ _
   | exact ih1 _ _ _ _ _ _ _ _ _ _ _ _ _ _ _ _
   | exact ih2 _ _ _ _ _ _ _ _ _ _ _ _ _ _ _ _
   | exact ih3 _ _ _ _ _ _ _ _ _ _ _ _
   | exact ih4 _ _ _ _
   | exact imageeditorlaw11_same.mono _ _ _ _ _ _ _
   | exact raster_At.mono _ _ _ _ _ _
   | exact raster_Box.mono _ _ _ _
   | exact raster_Check.mono _ _ _ _
   | exact raster_Crop.mono _ _ _ _ _ _ _ _
   | exact raster_Edge.mono _ _ _ _ _ _
   | exact raster_Flip.mono _ _ _ _ _
   | exact raster_Join.mono _ _ _ _
   | exact raster_New.mono _ _ _ _ _ _ _
   | exact raster_Put.mono _ _ _ _ _ _ _ _ _
   | exact raster_Same.mono _ _ _ _ _ _ _
   | exact LeO.none _
   | refine LeO.ite ?_ ?_
   | refine LeO.bind ?_ (fun _ => ?_)
  ·intro y0 y1 y2 y3 y4 y5 y6 y7 y8 y9 y10 y11
   unfold imageeditorlaw11_awake.j3
   repeat' first
   | (with_reducible exact ih0 _ _ _ _ _ _ _ _ _ _ _ _ _ _ _ _)
   | (with_reducible exact ih1 _ _ _ _ _ _ _ _ _ _ _ _ _ _ _ _)
   | (with_reducible exact ih2 _ _ _ _ _ _ _ _ _ _ _ _ _ _ _ _)
   | (with_reducible exact ih3 _ _ _ _ _ _ _ _ _ _ _ _)
   | (with_reducible exact ih4 _ _ _ _)
   | (with_reducible exact imageeditorlaw11_same.mono _ _ _ _ _ _ _)
   | (with_reducible exact raster_At.mono _ _ _ _ _ _)
   | (with_reducible exact raster_Box.mono _ _ _ _)
   | (with_reducible exact raster_Check.mono _ _ _ _)
   | (with_reducible exact raster_Crop.mono _ _ _ _ _ _ _ _)
   | (with_reducible exact raster_Edge.mono _ _ _ _ _ _)
   | (with_reducible exact raster_Flip.mono _ _ _ _ _)
   | (with_reducible exact raster_Join.mono _ _ _ _)
   | (with_reducible exact raster_New.mono _ _ _ _ _ _ _)
   | (with_reducible exact raster_Put.mono _ _ _ _ _ _ _ _ _)
   | (with_reducible exact raster_Same.mono _ _ _ _ _ _ _)
   | (with_reducible exact LeO.refl _)
   | (with_reducible exact LeO.none _)
   | (with_reducible refine LeO.ite ?_ ?_)
   | (with_reducible refine LeO.bind ?_ (fun _ => ?_))
   | exact ih0 _ _ _ _ _ _ _ _ _ _ _ _ _ _ _ _
   | exact ih1 _ _ _ _ _ _ _ _ _ _ _ _ _ _ _ _
   | exact ih2 _ _ _ _ _ _ _ _ _ _ _ _ _ _ _ _
   | exact ih3 _ _ _ _ _ _ _ _ _ _ _ _
   | exact ih4 _ _ _ _
   | exact imageeditorlaw11_same.mono _ _ _ _ _ _ _
   | exact raster_At.mono _ _ _ _ _ _
   | exact raster_Box.mono _ _ _ _
   | exact raster_Check.mono _ _ _ _
   | exact raster_Crop.mono _ _ _ _ _ _ _ _
   | exact raster_Edge.mono _ _ _ _ _ _
   | exact raster_Flip.mono _ _ _ _ _
   | exact raster_Join.mono _ _ _ _
   | exact raster_New.mono _ _ _ _ _ _ _
   | exact raster_Put.mono _ _ _ _ _ _ _ _ _
   | exact raster_Same.mono _ _ _ _ _ _ _
   | exact LeO.none _
   | refine LeO.ite ?_ ?_
   | refine LeO.bind ?_ (fun _ => ?_)
  ·intro y0 y1 y2 y3
   unfold imageeditorlaw11_awake.j4
   repeat' first
   | (with_reducible exact ih0 _ _ _ _ _ _ _ _ _ _ _ _ _ _ _ _)
   | (with_reducible exact ih1 _ _ _ _ _ _ _ _ _ _ _ _ _ _ _ _)
   | (with_reducible exact ih2 _ _ _ _ _ _ _ _ _ _ _ _ _ _ _ _)
   | (with_reducible exact ih3 _ _ _ _ _ _ _ _ _ _ _ _)
   | (with_reducible exact ih4 _ _ _ _)
   | (with_reducible exact imageeditorlaw11_same.mono _ _ _ _ _ _ _)
   | (with_reducible exact raster_At.mono _ _ _ _ _ _)
   | (with_reducible exact raster_Box.mono _ _ _ _)
   | (with_reducible exact raster_Check.mono _ _ _ _)
   | (with_reducible exact raster_Crop.mono _ _ _ _ _ _ _ _)
   | (with_reducible exact raster_Edge.mono _ _ _ _ _ _)
   | (with_reducible exact raster_Flip.mono _ _ _ _ _)
   | (with_reducible exact raster_Join.mono _ _ _ _)
   | (with_reducible exact raster_New.mono _ _ _ _ _ _ _)
   | (with_reducible exact raster_Put.mono _ _ _ _ _ _ _ _ _)
   | (with_reducible exact raster_Same.mono _ _ _ _ _ _ _)
   | (with_reducible exact LeO.refl _)
   | (with_reducible exact LeO.none _)
   | (with_reducible refine LeO.ite ?_ ?_)
   | (with_reducible refine LeO.bind ?_ (fun _ => ?_))
   | exact ih0 _ _ _ _ _ _ _ _ _ _ _ _ _ _ _ _
   | exact ih1 _ _ _ _ _ _ _ _ _ _ _ _ _ _ _ _
   | exact ih2 _ _ _ _ _ _ _ _ _ _ _ _ _ _ _ _
   | exact ih3 _ _ _ _ _ _ _ _ _ _ _ _
   | exact ih4 _ _ _ _
   | exact imageeditorlaw11_same.mono _ _ _ _ _ _ _
   | exact raster_At.mono _ _ _ _ _ _
   | exact raster_Box.mono _ _ _ _
   | exact raster_Check.mono _ _ _ _
   | exact raster_Crop.mono _ _ _ _ _ _ _ _
   | exact raster_Edge.mono _ _ _ _ _ _
   | exact raster_Flip.mono _ _ _ _ _
   | exact raster_Join.mono _ _ _ _
   | exact raster_New.mono _ _ _ _ _ _ _
   | exact raster_Put.mono _ _ _ _ _ _ _ _ _
   | exact raster_Same.mono _ _ _ _ _ _ _
   | exact LeO.none _
   | refine LeO.ite ?_ ?_
   | refine LeO.bind ?_ (fun _ => ?_)
theorem imageeditorlaw11_awake.mono : ∀ k, LeO (imageeditorlaw11_awake.f k ) (imageeditorlaw11_awake.f (k + 1) ) := by
 intro  k
 obtain ⟨ih0, ih1, ih2, ih3, ih4⟩ := imageeditorlaw11_awake.mono_l k
 unfold imageeditorlaw11_awake.f
 repeat' first
   | (with_reducible exact ih0 _ _ _ _ _ _ _ _ _ _ _ _ _ _ _ _)
   | (with_reducible exact ih1 _ _ _ _ _ _ _ _ _ _ _ _ _ _ _ _)
   | (with_reducible exact ih2 _ _ _ _ _ _ _ _ _ _ _ _ _ _ _ _)
   | (with_reducible exact ih3 _ _ _ _ _ _ _ _ _ _ _ _)
   | (with_reducible exact ih4 _ _ _ _)
   | (with_reducible exact imageeditorlaw11_same.mono _ _ _ _ _ _ _)
   | (with_reducible exact raster_At.mono _ _ _ _ _ _)
   | (with_reducible exact raster_Box.mono _ _ _ _)
   | (with_reducible exact raster_Check.mono _ _ _ _)
   | (with_reducible exact raster_Crop.mono _ _ _ _ _ _ _ _)
   | (with_reducible exact raster_Edge.mono _ _ _ _ _ _)
   | (with_reducible exact raster_Flip.mono _ _ _ _ _)
   | (with_reducible exact raster_Join.mono _ _ _ _)
   | (with_reducible exact raster_New.mono _ _ _ _ _ _ _)
   | (with_reducible exact raster_Put.mono _ _ _ _ _ _ _ _ _)
   | (with_reducible exact raster_Same.mono _ _ _ _ _ _ _)
   | (with_reducible exact LeO.refl _)
   | (with_reducible exact LeO.none _)
   | (with_reducible refine LeO.ite ?_ ?_)
   | (with_reducible refine LeO.bind ?_ (fun _ => ?_))
   | exact ih0 _ _ _ _ _ _ _ _ _ _ _ _ _ _ _ _
   | exact ih1 _ _ _ _ _ _ _ _ _ _ _ _ _ _ _ _
   | exact ih2 _ _ _ _ _ _ _ _ _ _ _ _ _ _ _ _
   | exact ih3 _ _ _ _ _ _ _ _ _ _ _ _
   | exact ih4 _ _ _ _
   | exact imageeditorlaw11_same.mono _ _ _ _ _ _ _
   | exact raster_At.mono _ _ _ _ _ _
   | exact raster_Box.mono _ _ _ _
   | exact raster_Check.mono _ _ _ _
   | exact raster_Crop.mono _ _ _ _ _ _ _ _
   | exact raster_Edge.mono _ _ _ _ _ _
   | exact raster_Flip.mono _ _ _ _ _
   | exact raster_Join.mono _ _ _ _
   | exact raster_New.mono _ _ _ _ _ _ _
   | exact raster_Put.mono _ _ _ _ _ _ _ _ _
   | exact raster_Same.mono _ _ _ _ _ _ _
   | exact LeO.none _
   | refine LeO.ite ?_ ?_
   | refine LeO.bind ?_ (fun _ => ?_)
def imageeditorlaw11_awake.T7 : Bool × List (List Nat × List Nat) := (true, [([], []), ([0], [0]), ([], []), ([1, 2], [1, 2]), ([3, 1], [3]), ([4], [4]), ([5, 4, 4], [4, 5]), ([4], [4]), ([6, 7, 4], [4, 6, 7]), ([4, 8], [4, 8]), ([9, 6], [9]), ([10], [10]), ([11, 10, 10], [10, 11]), ([10], [10]), ([12, 13, 10], [10, 12, 13]), ([10, 14], [10, 14]), ([15, 12], [15]), ([16], [16]), ([17, 16, 16], [16, 17]), ([16], [16]), ([18, 19, 16], [16, 18, 19]), ([16, 20], [16, 20])])
def imageeditorlaw11_awake.B7 : List Nat := [0, 1, 0, 7, 15, 31, 63, 31, 255, 511, 1023, 2047, 4095, 2047, 16383, 32767, 65535, 131071, 262143, 131071, 1048575, 2097151]
theorem imageeditorlaw11_awake.tab7 : rtab .any (opsOf Try.f17 7) = imageeditorlaw11_awake.T7 := by kernel_rfl
theorem imageeditorlaw11_awake.bits7 : waitsOk imageeditorlaw11_awake.T7.2 imageeditorlaw11_awake.B7 = true := by kernel_rfl
set_option maxHeartbeats 8000000 in
set_option maxRecDepth 100000 in
theorem imageeditorlaw11_awake.callsT (k : Nat)  (r : Bool) (w : World) (hT : r = true) (h : imageeditorlaw11_awake.f k  = some r) :
  Calls Try.prog 17 #[] w fun e w' => e = .returned (.bool r) ∧ Below w.heap.size w w' := by
 have hu26 := Try.underlying26
 have hu24 := Try.underlying24
 have hu37 := Try.underlying37
 have hu41 := Try.underlying41
 have HT := Aside0.mk hT
 clear hT
 have HB := Aside0.mk (Below.refl w.heap.size w)
 have H : ((some (([(⟨1, 0, 0, 9⟩ : S26), (⟨0, 2, 0, 8⟩ : S26)] : List (S26)) : List (S26))).bind fun y421 => ((raster_New.f k 2 0 1 0 0 9).bind fun bt425 => ((raster_New.f k 2 1 0 0 3 7).bind fun bt432 => (if bt425.2.2.2 = 15 then (if bt432.2.2.2 = 0 then ((imageeditorlaw11_same.f k bt432.1 bt432.2.1 bt432.2.2.1 2 1 (([(⟨0, 0, 3, 7⟩ : S26), (⟨0, 0, 3, 7⟩ : S26)] : List (S26)))).bind fun t442 => (if t442 = true then ((raster_Check.f k 2 1 y421).bind fun t443 => (if t443 = 0 then ((raster_Same.f k 2 1 y421 bt432.1 bt432.2.1 bt432.2.2.1).bind fun t444 => (if t444 = true then (imageeditorlaw11_awake.j0 k true 1 0 0 9 0 2 0 8 0 0 3 7 2 1 y421) else ((raster_Same.f k 2 1 y421 2 1 y421).bind fun t445 => (imageeditorlaw11_awake.j0 k (!t445) 1 0 0 9 0 2 0 8 0 0 3 7 2 1 y421)))) else (imageeditorlaw11_awake.j0 k true 1 0 0 9 0 2 0 8 0 0 3 7 2 1 y421))) else (imageeditorlaw11_awake.j0 k true 1 0 0 9 0 2 0 8 0 0 3 7 2 1 y421))) else (imageeditorlaw11_awake.j0 k true 1 0 0 9 0 2 0 8 0 0 3 7 2 1 y421)) else (imageeditorlaw11_awake.j0 k true 1 0 0 9 0 2 0 8 0 0 3 7 2 1 y421))))) = some r := h
 clear h
 obtain ⟨y421, hy421⟩ : ∃ y_ : List (S26), y_ = (([(⟨1, 0, 0, 9⟩ : S26), (⟨0, 2, 0, 8⟩ : S26)] : List (S26))) := ⟨_, rfl⟩
 replace H : ((raster_New.f k 2 0 1 0 0 9).bind fun bt425 => ((raster_New.f k 2 1 0 0 3 7).bind fun bt432 => (if bt425.2.2.2 = 15 then (if bt432.2.2.2 = 0 then ((imageeditorlaw11_same.f k bt432.1 bt432.2.1 bt432.2.2.1 2 1 (([(⟨0, 0, 3, 7⟩ : S26), (⟨0, 0, 3, 7⟩ : S26)] : List (S26)))).bind fun t442 => (if t442 = true then ((raster_Check.f k 2 1 y421).bind fun t443 => (if t443 = 0 then ((raster_Same.f k 2 1 y421 bt432.1 bt432.2.1 bt432.2.2.1).bind fun t444 => (if t444 = true then (imageeditorlaw11_awake.j0 k true 1 0 0 9 0 2 0 8 0 0 3 7 2 1 y421) else ((raster_Same.f k 2 1 y421 2 1 y421).bind fun t445 => (imageeditorlaw11_awake.j0 k (!t445) 1 0 0 9 0 2 0 8 0 0 3 7 2 1 y421)))) else (imageeditorlaw11_awake.j0 k true 1 0 0 9 0 2 0 8 0 0 3 7 2 1 y421))) else (imageeditorlaw11_awake.j0 k true 1 0 0 9 0 2 0 8 0 0 3 7 2 1 y421))) else (imageeditorlaw11_awake.j0 k true 1 0 0 9 0 2 0 8 0 0 3 7 2 1 y421)) else (imageeditorlaw11_awake.j0 k true 1 0 0 9 0 2 0 8 0 0 3 7 2 1 y421)))) = some r := by first | (rw [hy421]; with_reducible exact H) | (have H2_ := (Option.bind_some _ _).symm.trans H; rw [hy421]; with_reducible exact H2_) | (have H2_ := (Option.bind_some _ _).symm.trans H; with_reducible exact H2_) | with_reducible exact H | (rw [hy421]; exact H) | exact H
 have Ny421 := Aside0.mk hy421
 clear hy421
 replace H := Option.bind_eq_some_iff.mp H
 obtain ⟨⟨t425, t426, t427, t430⟩, A10, H⟩ := H
 replace H : ((raster_New.f k 2 1 0 0 3 7).bind fun bt432 => (if t430 = 15 then (if bt432.2.2.2 = 0 then ((imageeditorlaw11_same.f k bt432.1 bt432.2.1 bt432.2.2.1 2 1 (([(⟨0, 0, 3, 7⟩ : S26), (⟨0, 0, 3, 7⟩ : S26)] : List (S26)))).bind fun t442 => (if t442 = true then ((raster_Check.f k 2 1 y421).bind fun t443 => (if t443 = 0 then ((raster_Same.f k 2 1 y421 bt432.1 bt432.2.1 bt432.2.2.1).bind fun t444 => (if t444 = true then (imageeditorlaw11_awake.j0 k true 1 0 0 9 0 2 0 8 0 0 3 7 2 1 y421) else ((raster_Same.f k 2 1 y421 2 1 y421).bind fun t445 => (imageeditorlaw11_awake.j0 k (!t445) 1 0 0 9 0 2 0 8 0 0 3 7 2 1 y421)))) else (imageeditorlaw11_awake.j0 k true 1 0 0 9 0 2 0 8 0 0 3 7 2 1 y421))) else (imageeditorlaw11_awake.j0 k true 1 0 0 9 0 2 0 8 0 0 3 7 2 1 y421))) else (imageeditorlaw11_awake.j0 k true 1 0 0 9 0 2 0 8 0 0 3 7 2 1 y421)) else (imageeditorlaw11_awake.j0 k true 1 0 0 9 0 2 0 8 0 0 3 7 2 1 y421))) = some r := H
 have A1 := Aside0.mk A10
 clear A10
 replace H := Option.bind_eq_some_iff.mp H
 obtain ⟨⟨t432, t433, t434, t437⟩, A20, H⟩ := H
 replace H : (if t430 = 15 then (if t437 = 0 then ((imageeditorlaw11_same.f k t432 t433 t434 2 1 (([(⟨0, 0, 3, 7⟩ : S26), (⟨0, 0, 3, 7⟩ : S26)] : List (S26)))).bind fun t442 => (if t442 = true then ((raster_Check.f k 2 1 y421).bind fun t443 => (if t443 = 0 then ((raster_Same.f k 2 1 y421 t432 t433 t434).bind fun t444 => (if t444 = true then (imageeditorlaw11_awake.j0 k true 1 0 0 9 0 2 0 8 0 0 3 7 2 1 y421) else ((raster_Same.f k 2 1 y421 2 1 y421).bind fun t445 => (imageeditorlaw11_awake.j0 k (!t445) 1 0 0 9 0 2 0 8 0 0 3 7 2 1 y421)))) else (imageeditorlaw11_awake.j0 k true 1 0 0 9 0 2 0 8 0 0 3 7 2 1 y421))) else (imageeditorlaw11_awake.j0 k true 1 0 0 9 0 2 0 8 0 0 3 7 2 1 y421))) else (imageeditorlaw11_awake.j0 k true 1 0 0 9 0 2 0 8 0 0 3 7 2 1 y421)) else (imageeditorlaw11_awake.j0 k true 1 0 0 9 0 2 0 8 0 0 3 7 2 1 y421)) = some r := H
 have A2 := Aside0.mk A20
 clear A20
 have HC3 := Aside0.mk H
 clear H
 go_enter Try.func17, Try.ntmps17
 go_upto_region 5 with (first | ((with_reducible refine gate_dst (N := 1) rfl ?_); (try (refine gate_guard (by rfl) ?_; dsimp only)); refine box_event ?hg (N := 1) ?hd (cs := #[.int .i64 0, .int .i64 0, .int .i64 0, .int .i64 0]) (t := 26) ?hr ?_; (case hd => rfl); (case hg => rfl); (case hr => first | (go_simp; done) | (go_simp; rfl)); intro gb418 hg w4 hbox hb; have GW418 := zg HB hg; have GE418 := zg HB hg; have n0_ := Aside0.mk (hbox); replace HB := zb HB hb; have BK418 := n0_; clear n0_; clear hb hbox hg) | ((with_reducible refine gate_dst (N := 2) rfl ?_); (try (refine gate_guard (by rfl) ?_; dsimp only)); refine box_event ?hg (N := 2) ?hd (cs := #[.int .i64 0, .int .i64 0, .int .i64 0, .int .i64 0]) (t := 26) ?hr ?_; (case hd => rfl); (case hg => rfl); (case hr => first | (go_simp; done) | (go_simp; rfl)); intro gb419 hg w5 hbox hb; have GW419 := zg HB hg; have GE419 := zg HB hg; have NB418_419 := zn BK418 hg; have NB419_418 := zn' BK418 hg; have n0_ := Aside0.mk (hbox); replace BK418 := zk BK418 hb; replace HB := zb HB hb; have BK419 := n0_; clear n0_; clear hb hbox hg) | ((with_reducible refine gate_dst (N := 3) rfl ?_); (try (refine gate_guard (by rfl) ?_; dsimp only)); refine box_event ?hg (N := 3) ?hd (cs := #[.int .i64 0, .int .i64 0, .int .i64 0, .int .i64 0]) (t := 26) ?hr ?_; (case hd => rfl); (case hg => rfl); (case hr => first | (go_simp; done) | (go_simp; rfl)); intro gb420 hg w6 hbox hb; have GW420 := zg HB hg; have GE420 := zg HB hg; have NB418_420 := zn BK418 hg; have NB420_418 := zn' BK418 hg; have NB419_420 := zn BK419 hg; have NB420_419 := zn' BK419 hg; have n0_ := Aside0.mk (hbox); replace BK418 := zk BK418 hb; replace BK419 := zk BK419 hb; replace HB := zb HB hb; have BK420 := n0_; clear n0_; clear hb hbox hg; have hnb7 := NB418_419.out; have hnc7 := NB419_418.out; have hnb8 := NB418_420.out; have hnc8 := NB420_418.out; obtain ⟨hcz9_0, hcz9_1, hcz9_2, hcz9_3, hfz9_0, hfz9_1, hfz9_2, hfz9_3⟩ := zq4 BK418; have hnb10 := NB419_420.out; have hnc10 := NB420_419.out; obtain ⟨hcz11_0, hcz11_1, hcz11_2, hcz11_3, hfz11_0, hfz11_1, hfz11_2, hfz11_3⟩ := zq4 BK419; obtain ⟨hcz12_0, hcz12_1, hcz12_2, hcz12_3, hfz12_0, hfz12_1, hfz12_2, hfz12_3⟩ := zq4 BK420) | ((with_reducible refine gate_dst (N := 15) rfl ?_); (try (refine gate_guard (by rfl) ?_; dsimp only)); refine Kd.R_lit k26 _ 26 ?hg (N := 15) ?hd (xs := ([(⟨1, 0, 0, 9⟩ : S26), (⟨0, 2, 0, 8⟩ : S26)] : List (S26))) (inner := [.int .i64 1, .int .i64 0, .int .i64 0, .int .i64 9, .int .i64 0, .int .i64 2, .int .i64 0, .int .i64 8]) (ok := fun _ => True) (okp := fun _ => True) ?hr ?hp (fun _ hk => hk) trivial (Below.refl _ _) (Nat.le_refl _) (by simp) ?_; (case hd => rfl); (case hg => rfl); (case hr => first | (go_simp; done) | (go_simp; rfl)); (case hp => exact (Reps.c4 (show Kd.M k26 _ _ _ (⟨1, 0, 0, 9⟩ : S26) [.int .i64 1, .int .i64 0, .int .i64 0, .int .i64 9] from (k26_mkM _ _ _ (⟨1, 0, 0, 9⟩ : S26) )) (Reps.c4 (show Kd.M k26 _ _ _ (⟨0, 2, 0, 8⟩ : S26) [.int .i64 0, .int .i64 2, .int .i64 0, .int .i64 8] from (k26_mkM _ _ _ (⟨0, 2, 0, 8⟩ : S26) )) (Reps.none _ _)))); intro v422 w13 ho14 hb hg_ hnew_; clear hg_ hnew_; (first | rw [← Ny421.out] at ho14 | (simp only [Int.reduceToNat] at ho14; rw [← Ny421.out] at ho14)); have n0_ := Aside0.mk (Kd.R_lower (Kd.R_newB (Kd.R_newB (Kd.R_newB ho14 (g := gb418) (o := .cells #[.int .i64 1, .int .i64 0, .int .i64 0, .int .i64 9] 26 (0, 0)) (by (with_reducible repeat (first | refine blk_drewN ?_ _ | refine blk_drew ?_ | refine blk_alloc ?_ _)); refine blk_far ?_ NB418_420.out _; (with_reducible repeat (first | refine blk_drewN ?_ _ | refine blk_drew ?_ | refine blk_alloc ?_ _)); refine blk_far ?_ NB418_420.out _; (with_reducible repeat (first | refine blk_drewN ?_ _ | refine blk_drew ?_ | refine blk_alloc ?_ _)); refine blk_far ?_ NB418_420.out _; (with_reducible repeat (first | refine blk_drewN ?_ _ | refine blk_drew ?_ | refine blk_alloc ?_ _)); refine blk_far ?_ NB418_420.out _; (with_reducible repeat (first | refine blk_drewN ?_ _ | refine blk_drew ?_ | refine blk_alloc ?_ _)); refine blk_far ?_ NB418_419.out _; (with_reducible repeat (first | refine blk_drewN ?_ _ | refine blk_drew ?_ | refine blk_alloc ?_ _)); refine blk_far ?_ NB418_419.out _; (with_reducible repeat (first | refine blk_drewN ?_ _ | refine blk_drew ?_ | refine blk_alloc ?_ _)); refine blk_far ?_ NB418_419.out _; (with_reducible repeat (first | refine blk_drewN ?_ _ | refine blk_drew ?_ | refine blk_alloc ?_ _)); refine blk_far ?_ NB418_419.out _; (with_reducible repeat (first | refine blk_drewN ?_ _ | refine blk_drew ?_ | refine blk_alloc ?_ _)); refine blk_put (cs := #[.int .i64 1, .int .i64 0, .int .i64 0, .int .i64 0]) ?_ 3 _ rfl; (with_reducible repeat (first | refine blk_drewN ?_ _ | refine blk_drew ?_ | refine blk_alloc ?_ _)); refine blk_put (cs := #[.int .i64 1, .int .i64 0, .int .i64 0, .int .i64 0]) ?_ 2 _ rfl; (with_reducible repeat (first | refine blk_drewN ?_ _ | refine blk_drew ?_ | refine blk_alloc ?_ _)); refine blk_put (cs := #[.int .i64 1, .int .i64 0, .int .i64 0, .int .i64 0]) ?_ 1 _ rfl; (with_reducible repeat (first | refine blk_drewN ?_ _ | refine blk_drew ?_ | refine blk_alloc ?_ _)); refine blk_put (cs := #[.int .i64 0, .int .i64 0, .int .i64 0, .int .i64 0]) ?_ 0 _ rfl; (with_reducible repeat (first | refine blk_drewN ?_ _ | refine blk_drew ?_ | refine blk_alloc ?_ _)); exact BK418.out)) (g := gb419) (o := .cells #[.int .i64 0, .int .i64 2, .int .i64 0, .int .i64 8] 26 (0, 0)) (by (with_reducible repeat (first | refine blk_drewN ?_ _ | refine blk_drew ?_ | refine blk_alloc ?_ _)); refine blk_far ?_ NB419_420.out _; (with_reducible repeat (first | refine blk_drewN ?_ _ | refine blk_drew ?_ | refine blk_alloc ?_ _)); refine blk_far ?_ NB419_420.out _; (with_reducible repeat (first | refine blk_drewN ?_ _ | refine blk_drew ?_ | refine blk_alloc ?_ _)); refine blk_far ?_ NB419_420.out _; (with_reducible repeat (first | refine blk_drewN ?_ _ | refine blk_drew ?_ | refine blk_alloc ?_ _)); refine blk_far ?_ NB419_420.out _; (with_reducible repeat (first | refine blk_drewN ?_ _ | refine blk_drew ?_ | refine blk_alloc ?_ _)); refine blk_put (cs := #[.int .i64 0, .int .i64 2, .int .i64 0, .int .i64 0]) ?_ 3 _ rfl; (with_reducible repeat (first | refine blk_drewN ?_ _ | refine blk_drew ?_ | refine blk_alloc ?_ _)); refine blk_put (cs := #[.int .i64 0, .int .i64 2, .int .i64 0, .int .i64 0]) ?_ 2 _ rfl; (with_reducible repeat (first | refine blk_drewN ?_ _ | refine blk_drew ?_ | refine blk_alloc ?_ _)); refine blk_put (cs := #[.int .i64 0, .int .i64 0, .int .i64 0, .int .i64 0]) ?_ 1 _ rfl; (with_reducible repeat (first | refine blk_drewN ?_ _ | refine blk_drew ?_ | refine blk_alloc ?_ _)); refine blk_put (cs := #[.int .i64 0, .int .i64 0, .int .i64 0, .int .i64 0]) ?_ 0 _ rfl; (with_reducible repeat (first | refine blk_drewN ?_ _ | refine blk_drew ?_ | refine blk_alloc ?_ _)); refine blk_far ?_ NB419_418.out _; (with_reducible repeat (first | refine blk_drewN ?_ _ | refine blk_drew ?_ | refine blk_alloc ?_ _)); refine blk_far ?_ NB419_418.out _; (with_reducible repeat (first | refine blk_drewN ?_ _ | refine blk_drew ?_ | refine blk_alloc ?_ _)); refine blk_far ?_ NB419_418.out _; (with_reducible repeat (first | refine blk_drewN ?_ _ | refine blk_drew ?_ | refine blk_alloc ?_ _)); refine blk_far ?_ NB419_418.out _; (with_reducible repeat (first | refine blk_drewN ?_ _ | refine blk_drew ?_ | refine blk_alloc ?_ _)); exact BK419.out)) (g := gb420) (o := .cells #[.int .i64 0, .int .i64 0, .int .i64 3, .int .i64 7] 26 (0, 0)) (by (with_reducible repeat (first | refine blk_drewN ?_ _ | refine blk_drew ?_ | refine blk_alloc ?_ _)); refine blk_put (cs := #[.int .i64 0, .int .i64 0, .int .i64 3, .int .i64 0]) ?_ 3 _ rfl; (with_reducible repeat (first | refine blk_drewN ?_ _ | refine blk_drew ?_ | refine blk_alloc ?_ _)); refine blk_put (cs := #[.int .i64 0, .int .i64 0, .int .i64 0, .int .i64 0]) ?_ 2 _ rfl; (with_reducible repeat (first | refine blk_drewN ?_ _ | refine blk_drew ?_ | refine blk_alloc ?_ _)); refine blk_put (cs := #[.int .i64 0, .int .i64 0, .int .i64 0, .int .i64 0]) ?_ 1 _ rfl; (with_reducible repeat (first | refine blk_drewN ?_ _ | refine blk_drew ?_ | refine blk_alloc ?_ _)); refine blk_put (cs := #[.int .i64 0, .int .i64 0, .int .i64 0, .int .i64 0]) ?_ 0 _ rfl; (with_reducible repeat (first | refine blk_drewN ?_ _ | refine blk_drew ?_ | refine blk_alloc ?_ _)); refine blk_far ?_ NB420_419.out _; (with_reducible repeat (first | refine blk_drewN ?_ _ | refine blk_drew ?_ | refine blk_alloc ?_ _)); refine blk_far ?_ NB420_419.out _; (with_reducible repeat (first | refine blk_drewN ?_ _ | refine blk_drew ?_ | refine blk_alloc ?_ _)); refine blk_far ?_ NB420_419.out _; (with_reducible repeat (first | refine blk_drewN ?_ _ | refine blk_drew ?_ | refine blk_alloc ?_ _)); refine blk_far ?_ NB420_419.out _; (with_reducible repeat (first | refine blk_drewN ?_ _ | refine blk_drew ?_ | refine blk_alloc ?_ _)); refine blk_far ?_ NB420_418.out _; (with_reducible repeat (first | refine blk_drewN ?_ _ | refine blk_drew ?_ | refine blk_alloc ?_ _)); refine blk_far ?_ NB420_418.out _; (with_reducible repeat (first | refine blk_drewN ?_ _ | refine blk_drew ?_ | refine blk_alloc ?_ _)); refine blk_far ?_ NB420_418.out _; (with_reducible repeat (first | refine blk_drewN ?_ _ | refine blk_drew ?_ | refine blk_alloc ?_ _)); refine blk_far ?_ NB420_418.out _; (with_reducible repeat (first | refine blk_drewN ?_ _ | refine blk_drew ?_ | refine blk_alloc ?_ _)); exact BK420.out)) (below_size (by repeat (first | (with_reducible first | exact HB.out | apply below_alloc | apply pw_below_drewN | apply below_drew1 | refine below_set ?_ GE418.out | refine below_set ?_ GE419.out | refine below_set ?_ GE420.out) | exact HB.out)))); have n1_ := Aside0.mk (blk_below (g := gb418) (o := .cells #[.int .i64 1, .int .i64 0, .int .i64 0, .int .i64 9] 26 (0, 0)) (by (with_reducible repeat (first | refine blk_drewN ?_ _ | refine blk_drew ?_ | refine blk_alloc ?_ _)); refine blk_far ?_ NB418_420.out _; (with_reducible repeat (first | refine blk_drewN ?_ _ | refine blk_drew ?_ | refine blk_alloc ?_ _)); refine blk_far ?_ NB418_420.out _; (with_reducible repeat (first | refine blk_drewN ?_ _ | refine blk_drew ?_ | refine blk_alloc ?_ _)); refine blk_far ?_ NB418_420.out _; (with_reducible repeat (first | refine blk_drewN ?_ _ | refine blk_drew ?_ | refine blk_alloc ?_ _)); refine blk_far ?_ NB418_420.out _; (with_reducible repeat (first | refine blk_drewN ?_ _ | refine blk_drew ?_ | refine blk_alloc ?_ _)); refine blk_far ?_ NB418_419.out _; (with_reducible repeat (first | refine blk_drewN ?_ _ | refine blk_drew ?_ | refine blk_alloc ?_ _)); refine blk_far ?_ NB418_419.out _; (with_reducible repeat (first | refine blk_drewN ?_ _ | refine blk_drew ?_ | refine blk_alloc ?_ _)); refine blk_far ?_ NB418_419.out _; (with_reducible repeat (first | refine blk_drewN ?_ _ | refine blk_drew ?_ | refine blk_alloc ?_ _)); refine blk_far ?_ NB418_419.out _; (with_reducible repeat (first | refine blk_drewN ?_ _ | refine blk_drew ?_ | refine blk_alloc ?_ _)); refine blk_put (cs := #[.int .i64 1, .int .i64 0, .int .i64 0, .int .i64 0]) ?_ 3 _ rfl; (with_reducible repeat (first | refine blk_drewN ?_ _ | refine blk_drew ?_ | refine blk_alloc ?_ _)); refine blk_put (cs := #[.int .i64 1, .int .i64 0, .int .i64 0, .int .i64 0]) ?_ 2 _ rfl; (with_reducible repeat (first | refine blk_drewN ?_ _ | refine blk_drew ?_ | refine blk_alloc ?_ _)); refine blk_put (cs := #[.int .i64 1, .int .i64 0, .int .i64 0, .int .i64 0]) ?_ 1 _ rfl; (with_reducible repeat (first | refine blk_drewN ?_ _ | refine blk_drew ?_ | refine blk_alloc ?_ _)); refine blk_put (cs := #[.int .i64 0, .int .i64 0, .int .i64 0, .int .i64 0]) ?_ 0 _ rfl; (with_reducible repeat (first | refine blk_drewN ?_ _ | refine blk_drew ?_ | refine blk_alloc ?_ _)); exact BK418.out) hb); have n2_ := Aside0.mk (blk_below (g := gb419) (o := .cells #[.int .i64 0, .int .i64 2, .int .i64 0, .int .i64 8] 26 (0, 0)) (by (with_reducible repeat (first | refine blk_drewN ?_ _ | refine blk_drew ?_ | refine blk_alloc ?_ _)); refine blk_far ?_ NB419_420.out _; (with_reducible repeat (first | refine blk_drewN ?_ _ | refine blk_drew ?_ | refine blk_alloc ?_ _)); refine blk_far ?_ NB419_420.out _; (with_reducible repeat (first | refine blk_drewN ?_ _ | refine blk_drew ?_ | refine blk_alloc ?_ _)); refine blk_far ?_ NB419_420.out _; (with_reducible repeat (first | refine blk_drewN ?_ _ | refine blk_drew ?_ | refine blk_alloc ?_ _)); refine blk_far ?_ NB419_420.out _; (with_reducible repeat (first | refine blk_drewN ?_ _ | refine blk_drew ?_ | refine blk_alloc ?_ _)); refine blk_put (cs := #[.int .i64 0, .int .i64 2, .int .i64 0, .int .i64 0]) ?_ 3 _ rfl; (with_reducible repeat (first | refine blk_drewN ?_ _ | refine blk_drew ?_ | refine blk_alloc ?_ _)); refine blk_put (cs := #[.int .i64 0, .int .i64 2, .int .i64 0, .int .i64 0]) ?_ 2 _ rfl; (with_reducible repeat (first | refine blk_drewN ?_ _ | refine blk_drew ?_ | refine blk_alloc ?_ _)); refine blk_put (cs := #[.int .i64 0, .int .i64 0, .int .i64 0, .int .i64 0]) ?_ 1 _ rfl; (with_reducible repeat (first | refine blk_drewN ?_ _ | refine blk_drew ?_ | refine blk_alloc ?_ _)); refine blk_put (cs := #[.int .i64 0, .int .i64 0, .int .i64 0, .int .i64 0]) ?_ 0 _ rfl; (with_reducible repeat (first | refine blk_drewN ?_ _ | refine blk_drew ?_ | refine blk_alloc ?_ _)); refine blk_far ?_ NB419_418.out _; (with_reducible repeat (first | refine blk_drewN ?_ _ | refine blk_drew ?_ | refine blk_alloc ?_ _)); refine blk_far ?_ NB419_418.out _; (with_reducible repeat (first | refine blk_drewN ?_ _ | refine blk_drew ?_ | refine blk_alloc ?_ _)); refine blk_far ?_ NB419_418.out _; (with_reducible repeat (first | refine blk_drewN ?_ _ | refine blk_drew ?_ | refine blk_alloc ?_ _)); refine blk_far ?_ NB419_418.out _; (with_reducible repeat (first | refine blk_drewN ?_ _ | refine blk_drew ?_ | refine blk_alloc ?_ _)); exact BK419.out) hb); have n3_ := Aside0.mk (blk_below (g := gb420) (o := .cells #[.int .i64 0, .int .i64 0, .int .i64 3, .int .i64 7] 26 (0, 0)) (by (with_reducible repeat (first | refine blk_drewN ?_ _ | refine blk_drew ?_ | refine blk_alloc ?_ _)); refine blk_put (cs := #[.int .i64 0, .int .i64 0, .int .i64 3, .int .i64 0]) ?_ 3 _ rfl; (with_reducible repeat (first | refine blk_drewN ?_ _ | refine blk_drew ?_ | refine blk_alloc ?_ _)); refine blk_put (cs := #[.int .i64 0, .int .i64 0, .int .i64 0, .int .i64 0]) ?_ 2 _ rfl; (with_reducible repeat (first | refine blk_drewN ?_ _ | refine blk_drew ?_ | refine blk_alloc ?_ _)); refine blk_put (cs := #[.int .i64 0, .int .i64 0, .int .i64 0, .int .i64 0]) ?_ 1 _ rfl; (with_reducible repeat (first | refine blk_drewN ?_ _ | refine blk_drew ?_ | refine blk_alloc ?_ _)); refine blk_put (cs := #[.int .i64 0, .int .i64 0, .int .i64 0, .int .i64 0]) ?_ 0 _ rfl; (with_reducible repeat (first | refine blk_drewN ?_ _ | refine blk_drew ?_ | refine blk_alloc ?_ _)); refine blk_far ?_ NB420_419.out _; (with_reducible repeat (first | refine blk_drewN ?_ _ | refine blk_drew ?_ | refine blk_alloc ?_ _)); refine blk_far ?_ NB420_419.out _; (with_reducible repeat (first | refine blk_drewN ?_ _ | refine blk_drew ?_ | refine blk_alloc ?_ _)); refine blk_far ?_ NB420_419.out _; (with_reducible repeat (first | refine blk_drewN ?_ _ | refine blk_drew ?_ | refine blk_alloc ?_ _)); refine blk_far ?_ NB420_419.out _; (with_reducible repeat (first | refine blk_drewN ?_ _ | refine blk_drew ?_ | refine blk_alloc ?_ _)); refine blk_far ?_ NB420_418.out _; (with_reducible repeat (first | refine blk_drewN ?_ _ | refine blk_drew ?_ | refine blk_alloc ?_ _)); refine blk_far ?_ NB420_418.out _; (with_reducible repeat (first | refine blk_drewN ?_ _ | refine blk_drew ?_ | refine blk_alloc ?_ _)); refine blk_far ?_ NB420_418.out _; (with_reducible repeat (first | refine blk_drewN ?_ _ | refine blk_drew ?_ | refine blk_alloc ?_ _)); refine blk_far ?_ NB420_418.out _; (with_reducible repeat (first | refine blk_drewN ?_ _ | refine blk_drew ?_ | refine blk_alloc ?_ _)); exact BK420.out) hb); have n4_ := Aside0.mk (below_step (by repeat (first | (with_reducible first | exact HB.out | apply below_alloc | apply pw_below_drewN | apply below_drew1 | refine below_set ?_ GE418.out | refine below_set ?_ GE419.out | refine below_set ?_ GE420.out) | exact HB.out)) hb); clear BK418; clear BK419; clear BK420; clear HB; have HO423 := n0_; have BK418 := n1_; have BK419 := n2_; have BK420 := n3_; have HB := n4_; clear n0_ n1_ n2_ n3_ n4_; clear hb ho14; obtain ⟨Ao15, co15, eo15⟩ := Kd.R_slice HO423.out; subst eo15) | ((with_reducible refine gate_dst (N := 4) rfl ?_); (try (refine gate_guard (by rfl) ?_; dsimp only)); refine box_event ?hg (N := 4) ?hd (cs := #[.int .i64 0, .int .i64 0, .slice none 0 0]) (t := 24) ?hr ?_; (case hd => rfl); (case hg => rfl); (case hr => first | (go_simp; done) | (go_simp; rfl)); intro gb424 hg w16 hbox hb; have GW424 := zg HB hg; have GE424 := zg HB hg; have NB418_424 := zn BK418 hg; have NB424_418 := zn' BK418 hg; have NB419_424 := zn BK419 hg; have NB424_419 := zn' BK419 hg; have NB420_424 := zn BK420 hg; have NB424_420 := zn' BK420 hg; have n0_ := Aside0.mk (hbox); replace HO423 := zr HO423 hb; replace BK418 := zk BK418 hb; replace BK419 := zk BK419 hb; replace BK420 := zk BK420 hb; replace HB := zb HB hb; have BK424 := n0_; clear n0_; clear hb hbox hg; have hnb17 := NB424_418.out; have hnc17 := NB418_424.out; have hnb18 := NB424_419.out; have hnc18 := NB419_424.out; have hnb19 := NB424_420.out; have hnc19 := NB420_424.out; obtain ⟨hcz20_0, hcz20_1, hcz20_2, hfz20_0, hfz20_1, hfz20_2⟩ := zq3 BK424; obtain ⟨hcz21_0, hcz21_1, hcz21_2, hcz21_3, hfz21_0, hfz21_1, hfz21_2, hfz21_3⟩ := zq4 BK418) | ((with_reducible refine gate_callee (f := 15) rfl ?_); refine goesL_ (some 19) rfl rfl Try.func15 (by kernel_rfl) rfl #[.int .i64 2, .int .i64 0, .agg #[.int .i64 1, .int .i64 0, .int .i64 0, .int .i64 9]] rfl (by (try simp only [List.map_toArray, List.map_cons, List.map_nil]); first | done | rfl | (simp only [List.length_drop, List.length_take]; rfl)) ?_; (with_reducible refine (raster_New.calls k 2 0 1 0 0 9 t425 t426 t427 t430 _ A1.out).mono ?_); rintro e w22 ⟨v428, rfl, ho0, hb⟩; refine ⟨_, rfl, ?_⟩; have n0_ := Aside0.mk (Kd.R_below (by exact zro HO423 BK424 (by decide)) hb); have n1_ := Aside0.mk (Kd.R_lower (Kd.R_newB (Kd.R_newB (Kd.R_newB ho0 (zf BK418 NB418_424)) (zf BK419 NB419_424)) (zf BK420 NB420_424)) (below_size (by exact zbo HB GE424))); have n2_ := Aside0.mk (blk_below (g := gb424) (o := .cells #[.int .i64 2, .int .i64 1, .slice Ao15 y421.length co15] 24 (0, 0)) (by exact zp BK424 rfl) hb); have n3_ := Aside0.mk (below_step (by exact zbo HB GE424) hb); replace BK418 := zfk BK418 NB418_424 hb; replace BK419 := zfk BK419 NB419_424 hb; replace BK420 := zfk BK420 NB420_424 hb; clear HO423; clear BK424; clear HB; have HO423 := n0_; have HO429 := n1_; have BK424 := n2_; have HB := n3_; clear n0_ n1_ n2_ n3_; (try clear hb); (try clear hb2); (try clear hk); (try clear hi); (try clear ho0)) | ((with_reducible refine gate_dst (N := 5) rfl ?_); (try (refine gate_guard (by rfl) ?_; dsimp only)); refine box_event ?hg (N := 5) ?hd (cs := #[.int .i64 0, .int .i64 0, .slice none 0 0]) (t := 24) ?hr ?_; (case hd => rfl); (case hg => rfl); (case hr => first | (go_simp; done) | (go_simp; rfl)); intro gb431 hg w23 hbox hb; have GW431 := zg HB hg; have GE431 := zg HB hg; have NB418_431 := zn BK418 hg; have NB431_418 := zn' BK418 hg; have NB419_431 := zn BK419 hg; have NB431_419 := zn' BK419 hg; have NB420_431 := zn BK420 hg; have NB431_420 := zn' BK420 hg; have NB424_431 := zn BK424 hg; have NB431_424 := zn' BK424 hg; have n0_ := Aside0.mk (hbox); replace HO423 := zr HO423 hb; replace HO429 := zr HO429 hb; replace BK418 := zk BK418 hb; replace BK419 := zk BK419 hb; replace BK420 := zk BK420 hb; replace BK424 := zk BK424 hb; replace HB := zb HB hb; have BK431 := n0_; clear n0_; clear hb hbox hg; have hnb24 := NB431_418.out; have hnc24 := NB418_431.out; have hnb25 := NB431_419.out; have hnc25 := NB419_431.out; have hnb26 := NB431_420.out; have hnc26 := NB420_431.out; have hnb27 := NB431_424.out; have hnc27 := NB424_431.out; obtain ⟨hcz28_0, hcz28_1, hcz28_2, hfz28_0, hfz28_1, hfz28_2⟩ := zq3 BK431; obtain ⟨Ao29, co29, eo29⟩ := Kd.R_slice HO429.out; subst eo29; obtain ⟨hcz30_0, hcz30_1, hcz30_2, hcz30_3, hfz30_0, hfz30_1, hfz30_2, hfz30_3⟩ := zq4 BK420) | ((with_reducible refine gate_callee (f := 15) rfl ?_); refine goesL_ (some 24) rfl rfl Try.func15 (by kernel_rfl) rfl #[.int .i64 2, .int .i64 1, .agg #[.int .i64 0, .int .i64 0, .int .i64 3, .int .i64 7]] rfl (by (try simp only [List.map_toArray, List.map_cons, List.map_nil]); first | done | rfl | (simp only [List.length_drop, List.length_take]; rfl)) ?_; (with_reducible refine (raster_New.calls k 2 1 0 0 3 7 t432 t433 t434 t437 _ A2.out).mono ?_); rintro e w31 ⟨v435, rfl, ho0, hb⟩; refine ⟨_, rfl, ?_⟩; have n0_ := Aside0.mk (Kd.R_below (by exact zro HO423 BK431 (by decide)) hb); have n1_ := Aside0.mk (Kd.R_below (by exact zro HO429 BK431 (by decide)) hb); have n2_ := Aside0.mk (Kd.R_lower (Kd.R_newB (Kd.R_newB (Kd.R_newB ho0 (zf BK418 NB418_431)) (zf BK419 NB419_431)) (zf BK420 NB420_431)) (below_size (by exact zbo HB GE431))); have n3_ := Aside0.mk (blk_below (g := gb431) (o := .cells #[.int .i64 t425, .int .i64 t426, .slice Ao29 t427.length co29] 24 (0, 0)) (by exact zp BK431 rfl) hb); have n4_ := Aside0.mk (below_step (by exact zbo HB GE431) hb); replace BK418 := zfk BK418 NB418_431 hb; replace BK419 := zfk BK419 NB419_431 hb; replace BK420 := zfk BK420 NB420_431 hb; replace BK424 := zfk BK424 NB424_431 hb; clear HO423; clear HO429; clear BK431; clear HB; have HO423 := n0_; have HO429 := n1_; have HO436 := n2_; have BK431 := n3_; have HB := n4_; clear n0_ n1_ n2_ n3_ n4_; (try clear hb); (try clear hb2); (try clear hk); (try clear hi); (try clear ho0); (try clear HO429); (try clear BK431)) | ((with_reducible refine gate_dst (N := 7) rfl ?_); (try (refine gate_guard (by rfl) ?_; dsimp only)); refine box_event ?hg (N := 7) ?hd (cs := #[.int .i64 0, .int .i64 0, .slice none 0 0]) (t := 24) ?hr ?_; (case hd => rfl); (case hg => rfl); (case hr => first | (go_simp; done) | (go_simp; rfl)); intro gb438 hg w32 hbox hb; have GW438 := zg HB hg; have GE438 := zg HB hg; have NB418_438 := zn BK418 hg; have NB438_418 := zn' BK418 hg; have NB419_438 := zn BK419 hg; have NB438_419 := zn' BK419 hg; have NB420_438 := zn BK420 hg; have NB438_420 := zn' BK420 hg; have NB424_438 := zn BK424 hg; have NB438_424 := zn' BK424 hg; have n0_ := Aside0.mk (hbox); replace HO423 := zr HO423 hb; replace HO436 := zr HO436 hb; replace BK418 := zk BK418 hb; replace BK419 := zk BK419 hb; replace BK420 := zk BK420 hb; replace BK424 := zk BK424 hb; replace HB := zb HB hb; have BK438 := n0_; clear n0_; clear hb hbox hg; have hnb33 := NB438_418.out; have hnc33 := NB418_438.out; have hnb34 := NB438_419.out; have hnc34 := NB419_438.out; have hnb35 := NB438_420.out; have hnc35 := NB420_438.out; have hnb36 := NB438_424.out; have hnc36 := NB424_438.out; obtain ⟨hcz37_0, hcz37_1, hcz37_2, hfz37_0, hfz37_1, hfz37_2⟩ := zq3 BK438; obtain ⟨Ao38, co38, eo38⟩ := Kd.R_slice HO436.out; subst eo38))
 (try simp only [Act.put, sA, sB, sC])
 go_cut [57] (fun v57 wc => ∃ (kq : Nat) (x57_2 : Bool), v57 = .bool x57_2 ∧ Aside0 (imageeditorlaw11_awake.j0 kq x57_2 1 0 0 9 0 2 0 8 0 0 3 7 2 1 y421 = some r) ∧ Aside0 (kq ≤ k) ∧ Aside0 (Kd.R k26 26 wc w.heap.size (fun k_ => k_ ≠ gb418 ∧ k_ ≠ gb419 ∧ k_ ≠ gb420) (.slice Ao15 y421.length co15) y421) ∧ Aside0 (Kd.R k26 26 wc w.heap.size (fun k_ => k_ ≠ gb418 ∧ k_ ≠ gb419 ∧ k_ ≠ gb420) (.slice Ao38 t434.length co38) t434) ∧ Aside0 (wc.heap[gb418]? = some (.cells #[.int .i64 1, .int .i64 0, .int .i64 0, .int .i64 9] 26 (0, 0))) ∧ Aside0 (wc.heap[gb419]? = some (.cells #[.int .i64 0, .int .i64 2, .int .i64 0, .int .i64 8] 26 (0, 0))) ∧ Aside0 (wc.heap[gb420]? = some (.cells #[.int .i64 0, .int .i64 0, .int .i64 3, .int .i64 7] 26 (0, 0))) ∧ Aside0 (wc.heap[gb424]? = some (.cells #[.int .i64 2, .int .i64 1, (.slice Ao15 y421.length co15)] 24 (0, 0))) ∧ Aside0 (wc.heap[gb438]? = some (.cells #[.int .i64 t432, .int .i64 t433, (.slice Ao38 t434.length co38)] 24 (0, 0))) ∧ Aside0 (Below w.heap.size w wc))
 case first =>
  have H := HC3.out
  clear HC3
  by_cases c39 : t430 = 15
  ·rw [if_pos c39] at H
   have c39b0 : (t430 == 15) = true := beq_iff_eq.mpr c39
   have c39b1 : (t430 != 15) = false := bne_eq_false_iff_eq.mpr c39
   clear c39
   (first | rw [c39b0] | (simp only [i64_w, i32_w]; rw [c39b0]) | skip)
   by_cases c40 : t437 = 0
   ·rw [if_pos c40] at H
    have c40b0 : (t437 == 0) = true := beq_iff_eq.mpr c40
    have c40b1 : (t437 != 0) = false := bne_eq_false_iff_eq.mpr c40
    clear c40
    obtain ⟨y439, hy439⟩ : ∃ y_ : List (S26), y_ = (([(⟨0, 0, 3, 7⟩ : S26), (⟨0, 0, 3, 7⟩ : S26)] : List (S26))) := ⟨_, rfl⟩
    replace H : ((imageeditorlaw11_same.f k t432 t433 t434 2 1 y439).bind fun t442 => (if t442 = true then ((raster_Check.f k 2 1 y421).bind fun t443 => (if t443 = 0 then ((raster_Same.f k 2 1 y421 t432 t433 t434).bind fun t444 => (if t444 = true then (imageeditorlaw11_awake.j0 k true 1 0 0 9 0 2 0 8 0 0 3 7 2 1 y421) else ((raster_Same.f k 2 1 y421 2 1 y421).bind fun t445 => (imageeditorlaw11_awake.j0 k (!t445) 1 0 0 9 0 2 0 8 0 0 3 7 2 1 y421)))) else (imageeditorlaw11_awake.j0 k true 1 0 0 9 0 2 0 8 0 0 3 7 2 1 y421))) else (imageeditorlaw11_awake.j0 k true 1 0 0 9 0 2 0 8 0 0 3 7 2 1 y421))) = some r := by first | (rw [hy439]; with_reducible exact H) | (have H2_ := (Option.bind_some _ _).symm.trans H; rw [hy439]; with_reducible exact H2_) | (have H2_ := (Option.bind_some _ _).symm.trans H; with_reducible exact H2_) | with_reducible exact H | (rw [hy439]; exact H) | exact H
    have Ny439 := Aside0.mk hy439
    clear hy439
    replace H := Option.bind_eq_some_iff.mp H
    obtain ⟨t442, A410, H⟩ := H
    replace H : (if t442 = true then ((raster_Check.f k 2 1 y421).bind fun t443 => (if t443 = 0 then ((raster_Same.f k 2 1 y421 t432 t433 t434).bind fun t444 => (if t444 = true then (imageeditorlaw11_awake.j0 k true 1 0 0 9 0 2 0 8 0 0 3 7 2 1 y421) else ((raster_Same.f k 2 1 y421 2 1 y421).bind fun t445 => (imageeditorlaw11_awake.j0 k (!t445) 1 0 0 9 0 2 0 8 0 0 3 7 2 1 y421)))) else (imageeditorlaw11_awake.j0 k true 1 0 0 9 0 2 0 8 0 0 3 7 2 1 y421))) else (imageeditorlaw11_awake.j0 k true 1 0 0 9 0 2 0 8 0 0 3 7 2 1 y421)) = some r := H
    have A41 := Aside0.mk A410
    clear A410
    by_cases c42 : t442 = true
    ·subst c42
     have H1 : ((raster_Check.f k 2 1 y421).bind fun t443 => (if t443 = 0 then ((raster_Same.f k 2 1 y421 t432 t433 t434).bind fun t444 => (if t444 = true then (imageeditorlaw11_awake.j0 k true 1 0 0 9 0 2 0 8 0 0 3 7 2 1 y421) else ((raster_Same.f k 2 1 y421 2 1 y421).bind fun t445 => (imageeditorlaw11_awake.j0 k (!t445) 1 0 0 9 0 2 0 8 0 0 3 7 2 1 y421)))) else (imageeditorlaw11_awake.j0 k true 1 0 0 9 0 2 0 8 0 0 3 7 2 1 y421))) = some r := by rw [if_pos rfl] at H; exact H
     clear H
     have H := H1
     clear H1
     replace H := Option.bind_eq_some_iff.mp H
     obtain ⟨t443, A430, H⟩ := H
     replace H : (if t443 = 0 then ((raster_Same.f k 2 1 y421 t432 t433 t434).bind fun t444 => (if t444 = true then (imageeditorlaw11_awake.j0 k true 1 0 0 9 0 2 0 8 0 0 3 7 2 1 y421) else ((raster_Same.f k 2 1 y421 2 1 y421).bind fun t445 => (imageeditorlaw11_awake.j0 k (!t445) 1 0 0 9 0 2 0 8 0 0 3 7 2 1 y421)))) else (imageeditorlaw11_awake.j0 k true 1 0 0 9 0 2 0 8 0 0 3 7 2 1 y421)) = some r := H
     have A43 := Aside0.mk A430
     clear A430
     by_cases c44 : t443 = 0
     ·rw [if_pos c44] at H
      have c44b0 : (t443 == 0) = true := beq_iff_eq.mpr c44
      have c44b1 : (t443 != 0) = false := bne_eq_false_iff_eq.mpr c44
      clear c44
      replace H := Option.bind_eq_some_iff.mp H
      obtain ⟨t444, A450, H⟩ := H
      replace H : (if t444 = true then (imageeditorlaw11_awake.j0 k true 1 0 0 9 0 2 0 8 0 0 3 7 2 1 y421) else ((raster_Same.f k 2 1 y421 2 1 y421).bind fun t445 => (imageeditorlaw11_awake.j0 k (!t445) 1 0 0 9 0 2 0 8 0 0 3 7 2 1 y421))) = some r := H
      have A45 := Aside0.mk A450
      clear A450
      by_cases c46 : t444 = true
      ·subst c46
       have H1 : (imageeditorlaw11_awake.j0 k true 1 0 0 9 0 2 0 8 0 0 3 7 2 1 y421) = some r := by rw [if_pos rfl] at H; exact H
       clear H
       have H := H1
       clear H1
       have H' := Aside0.mk H
       clear H
       obtain ⟨hcz47_0, hcz47_1, hcz47_2, hfz47_0, hfz47_1, hfz47_2⟩ := zq3 BK438
       obtain ⟨hcz48_0, hcz48_1, hcz48_2, hcz48_3, hfz48_0, hfz48_1, hfz48_2, hfz48_3⟩ := zq4 BK420
       go_wp2_with (first | ((with_reducible refine gate_dst (N := 37) rfl ?_); (try (refine gate_guard (by rfl) ?_; dsimp only)); refine Kd.R_lit k26 _ 26 ?hg (N := 37) ?hd (xs := ([(⟨0, 0, 3, 7⟩ : S26), (⟨0, 0, 3, 7⟩ : S26)] : List (S26))) (inner := [.int .i64 0, .int .i64 0, .int .i64 3, .int .i64 7, .int .i64 0, .int .i64 0, .int .i64 3, .int .i64 7]) (ok := fun _ => True) (okp := fun _ => True) ?hr ?hp (fun _ hk => hk) trivial (Below.refl _ _) (Nat.le_refl _) (by simp) ?_; (case hd => rfl); (case hg => rfl); (case hr => first | (go_simp; done) | (go_simp; rfl)); (case hp => exact (Reps.c4 (show Kd.M k26 _ _ _ (⟨0, 0, 3, 7⟩ : S26) [.int .i64 0, .int .i64 0, .int .i64 3, .int .i64 7] from (k26_mkM _ _ _ (⟨0, 0, 3, 7⟩ : S26) )) (Reps.c4 (show Kd.M k26 _ _ _ (⟨0, 0, 3, 7⟩ : S26) [.int .i64 0, .int .i64 0, .int .i64 3, .int .i64 7] from (k26_mkM _ _ _ (⟨0, 0, 3, 7⟩ : S26) )) (Reps.none _ _)))); intro v440 w49 ho50 hb hg_ hnew_; clear hg_ hnew_; (first | rw [← Ny439.out] at ho50 | (simp only [Int.reduceToNat] at ho50; rw [← Ny439.out] at ho50)); have n0_ := Aside0.mk (Kd.R_below (by exact zro HO423 BK438 (by decide)) hb); have n1_ := Aside0.mk (Kd.R_below (by exact zro HO436 BK438 (by decide)) hb); have n2_ := Aside0.mk (Kd.R_lower (Kd.R_newB (Kd.R_newB (Kd.R_newB ho50 (zf BK418 NB418_438)) (zf BK419 NB419_438)) (zf BK420 NB420_438)) (below_size (by exact zbo HB GE438))); have n3_ := Aside0.mk (blk_below (g := gb438) (o := .cells #[.int .i64 t432, .int .i64 t433, .slice Ao38 t434.length co38] 24 (0, 0)) (by exact zp BK438 rfl) hb); have n4_ := Aside0.mk (below_step (by exact zbo HB GE438) hb); replace BK418 := zfk BK418 NB418_438 hb; replace BK419 := zfk BK419 NB419_438 hb; replace BK420 := zfk BK420 NB420_438 hb; replace BK424 := zfk BK424 NB424_438 hb; clear HO423; clear HO436; clear BK438; clear HB; have HO423 := n0_; have HO436 := n1_; have HO441 := n2_; have BK438 := n3_; have HB := n4_; clear n0_ n1_ n2_ n3_ n4_; clear hb ho50; obtain ⟨Ao51, co51, eo51⟩ := Kd.R_slice HO441.out; subst eo51) | (go_at_call 20; (with_reducible refine (imageeditorlaw11_same.calls k t432 t433 _ _ t434 2 1 _ _ y439 true _ ?side1 ?side2 ?side3 ?side4 A41.out).mono ?_); (case side1 => repeat (first | exact (Kd.R_reads' HO436.out).2.2 | (with_reducible refine Kd.C_alloc ?_ _) | (with_reducible refine Kd.C_drewN ?_ _) | (with_reducible refine Kd.C_drew ?_))); (case side2 => exact (Kd.R_reads' HO436.out).2.1); (case side3 => repeat (first | exact (Kd.R_reads' HO441.out).2.2 | (with_reducible refine Kd.C_alloc ?_ _) | (with_reducible refine Kd.C_drewN ?_ _) | (with_reducible refine Kd.C_drew ?_))); (case side4 => exact (Kd.R_reads' HO441.out).2.1); rintro e w52 ⟨rfl, hb⟩; replace HO423 := zr HO423 hb; replace HO436 := zr HO436 hb; replace HO441 := zr HO441 hb; replace BK418 := zk BK418 hb; replace BK419 := zk BK419 hb; replace BK420 := zk BK420 hb; replace BK424 := zk BK424 hb; replace BK438 := zk BK438 hb; replace HB := zb HB hb; (try clear hb); (try clear hb2); (try clear hk); (try clear hi); obtain ⟨hcz53_0, hcz53_1, hcz53_2, hfz53_0, hfz53_1, hfz53_2⟩ := zq3 BK424; (try clear HO441)) | (go_at_call 18; (with_reducible refine (raster_Check.calls k 2 1 _ _ y421 t443 _ ?side1 ?side2 A43.out).mono ?_); (case side1 => repeat (first | exact (Kd.R_reads' HO423.out).2.2 | (with_reducible refine Kd.C_alloc ?_ _) | (with_reducible refine Kd.C_drewN ?_ _) | (with_reducible refine Kd.C_drew ?_))); (case side2 => exact (Kd.R_reads' HO423.out).2.1); rintro e w54 ⟨rfl, hb⟩; replace HO423 := zr HO423 hb; replace HO436 := zr HO436 hb; replace BK418 := zk BK418 hb; replace BK419 := zk BK419 hb; replace BK420 := zk BK420 hb; replace BK424 := zk BK424 hb; replace BK438 := zk BK438 hb; replace HB := zb HB hb; (try clear hb); (try clear hb2); (try clear hk); (try clear hi); obtain ⟨hcz55_0, hcz55_1, hcz55_2, hfz55_0, hfz55_1, hfz55_2⟩ := zq3 BK424; obtain ⟨hcz56_0, hcz56_1, hcz56_2, hfz56_0, hfz56_1, hfz56_2⟩ := zq3 BK438) | (go_at_call 25; (with_reducible refine (raster_Same.calls k 2 1 _ _ y421 t432 t433 _ _ t434 true _ ?side1 ?side2 ?side3 ?side4 A45.out).mono ?_); (case side1 => repeat (first | exact (Kd.R_reads' HO423.out).2.2 | (with_reducible refine Kd.C_alloc ?_ _) | (with_reducible refine Kd.C_drewN ?_ _) | (with_reducible refine Kd.C_drew ?_))); (case side2 => exact (Kd.R_reads' HO423.out).2.1); (case side3 => repeat (first | exact (Kd.R_reads' HO436.out).2.2 | (with_reducible refine Kd.C_alloc ?_ _) | (with_reducible refine Kd.C_drewN ?_ _) | (with_reducible refine Kd.C_drew ?_))); (case side4 => exact (Kd.R_reads' HO436.out).2.1); rintro e w57 ⟨rfl, hb⟩; replace HO423 := zr HO423 hb; replace HO436 := zr HO436 hb; replace BK418 := zk BK418 hb; replace BK419 := zk BK419 hb; replace BK420 := zk BK420 hb; replace BK424 := zk BK424 hb; replace BK438 := zk BK438 hb; replace HB := zb HB hb; (try clear hb); (try clear hb2); (try clear hk); (try clear hi)))
       go_meet
       case rel => exact ⟨_, (true), (by first | rfl | (simp; done) | (simp [*]; done)), H', ⟨by first | omega | exact Nat.le_refl _⟩, ⟨by (with_reducible repeat (first | apply Kd.R_alloc | apply Kd.R_drewN | apply Kd.R_drew)); exact Kd.R_mono HO423.out (fun _ hk => ⟨hk.1.1.2, ⟨hk.1.2, hk.2⟩⟩)⟩, ⟨by (with_reducible repeat (first | apply Kd.R_alloc | apply Kd.R_drewN | apply Kd.R_drew)); exact Kd.R_mono HO436.out (fun _ hk => ⟨hk.1.1.2, ⟨hk.1.2, hk.2⟩⟩)⟩, ⟨by exact zk0 BK418⟩, ⟨by exact zk0 BK419⟩, ⟨by exact zk0 BK420⟩, ⟨by exact zk0 BK424⟩, ⟨by exact zk0 BK438⟩, ⟨by exact zb0 HB⟩⟩
      ·replace c46 := Bool.eq_false_iff.mpr c46
       subst c46
       have H1 : ((raster_Same.f k 2 1 y421 2 1 y421).bind fun t445 => (imageeditorlaw11_awake.j0 k (!t445) 1 0 0 9 0 2 0 8 0 0 3 7 2 1 y421)) = some r := by rw [if_neg (show ¬ (false = true) by decide)] at H; exact H
       clear H
       have H := H1
       clear H1
       replace H := Option.bind_eq_some_iff.mp H
       obtain ⟨t445, A580, H⟩ := H
       replace H : (imageeditorlaw11_awake.j0 k (!t445) 1 0 0 9 0 2 0 8 0 0 3 7 2 1 y421) = some r := H
       have A58 := Aside0.mk A580
       clear A580
       have H' := Aside0.mk H
       clear H
       obtain ⟨hcz59_0, hcz59_1, hcz59_2, hfz59_0, hfz59_1, hfz59_2⟩ := zq3 BK438
       obtain ⟨hcz60_0, hcz60_1, hcz60_2, hcz60_3, hfz60_0, hfz60_1, hfz60_2, hfz60_3⟩ := zq4 BK420
       go_wp2_with (first | ((with_reducible refine gate_dst (N := 37) rfl ?_); (try (refine gate_guard (by rfl) ?_; dsimp only)); refine Kd.R_lit k26 _ 26 ?hg (N := 37) ?hd (xs := ([(⟨0, 0, 3, 7⟩ : S26), (⟨0, 0, 3, 7⟩ : S26)] : List (S26))) (inner := [.int .i64 0, .int .i64 0, .int .i64 3, .int .i64 7, .int .i64 0, .int .i64 0, .int .i64 3, .int .i64 7]) (ok := fun _ => True) (okp := fun _ => True) ?hr ?hp (fun _ hk => hk) trivial (Below.refl _ _) (Nat.le_refl _) (by simp) ?_; (case hd => rfl); (case hg => rfl); (case hr => first | (go_simp; done) | (go_simp; rfl)); (case hp => exact (Reps.c4 (show Kd.M k26 _ _ _ (⟨0, 0, 3, 7⟩ : S26) [.int .i64 0, .int .i64 0, .int .i64 3, .int .i64 7] from (k26_mkM _ _ _ (⟨0, 0, 3, 7⟩ : S26) )) (Reps.c4 (show Kd.M k26 _ _ _ (⟨0, 0, 3, 7⟩ : S26) [.int .i64 0, .int .i64 0, .int .i64 3, .int .i64 7] from (k26_mkM _ _ _ (⟨0, 0, 3, 7⟩ : S26) )) (Reps.none _ _)))); intro v440 w61 ho62 hb hg_ hnew_; clear hg_ hnew_; (first | rw [← Ny439.out] at ho62 | (simp only [Int.reduceToNat] at ho62; rw [← Ny439.out] at ho62)); have n0_ := Aside0.mk (Kd.R_below (by exact zro HO423 BK438 (by decide)) hb); have n1_ := Aside0.mk (Kd.R_below (by exact zro HO436 BK438 (by decide)) hb); have n2_ := Aside0.mk (Kd.R_lower (Kd.R_newB (Kd.R_newB (Kd.R_newB ho62 (zf BK418 NB418_438)) (zf BK419 NB419_438)) (zf BK420 NB420_438)) (below_size (by exact zbo HB GE438))); have n3_ := Aside0.mk (blk_below (g := gb438) (o := .cells #[.int .i64 t432, .int .i64 t433, .slice Ao38 t434.length co38] 24 (0, 0)) (by exact zp BK438 rfl) hb); have n4_ := Aside0.mk (below_step (by exact zbo HB GE438) hb); replace BK418 := zfk BK418 NB418_438 hb; replace BK419 := zfk BK419 NB419_438 hb; replace BK420 := zfk BK420 NB420_438 hb; replace BK424 := zfk BK424 NB424_438 hb; clear HO423; clear HO436; clear BK438; clear HB; have HO423 := n0_; have HO436 := n1_; have HO441 := n2_; have BK438 := n3_; have HB := n4_; clear n0_ n1_ n2_ n3_ n4_; clear hb ho62; obtain ⟨Ao63, co63, eo63⟩ := Kd.R_slice HO441.out; subst eo63) | (go_at_call 20; (with_reducible refine (imageeditorlaw11_same.calls k t432 t433 _ _ t434 2 1 _ _ y439 true _ ?side1 ?side2 ?side3 ?side4 A41.out).mono ?_); (case side1 => repeat (first | exact (Kd.R_reads' HO436.out).2.2 | (with_reducible refine Kd.C_alloc ?_ _) | (with_reducible refine Kd.C_drewN ?_ _) | (with_reducible refine Kd.C_drew ?_))); (case side2 => exact (Kd.R_reads' HO436.out).2.1); (case side3 => repeat (first | exact (Kd.R_reads' HO441.out).2.2 | (with_reducible refine Kd.C_alloc ?_ _) | (with_reducible refine Kd.C_drewN ?_ _) | (with_reducible refine Kd.C_drew ?_))); (case side4 => exact (Kd.R_reads' HO441.out).2.1); rintro e w64 ⟨rfl, hb⟩; replace HO423 := zr HO423 hb; replace HO436 := zr HO436 hb; replace HO441 := zr HO441 hb; replace BK418 := zk BK418 hb; replace BK419 := zk BK419 hb; replace BK420 := zk BK420 hb; replace BK424 := zk BK424 hb; replace BK438 := zk BK438 hb; replace HB := zb HB hb; (try clear hb); (try clear hb2); (try clear hk); (try clear hi); obtain ⟨hcz65_0, hcz65_1, hcz65_2, hfz65_0, hfz65_1, hfz65_2⟩ := zq3 BK424; (try clear HO441)) | (go_at_call 18; (with_reducible refine (raster_Check.calls k 2 1 _ _ y421 t443 _ ?side1 ?side2 A43.out).mono ?_); (case side1 => repeat (first | exact (Kd.R_reads' HO423.out).2.2 | (with_reducible refine Kd.C_alloc ?_ _) | (with_reducible refine Kd.C_drewN ?_ _) | (with_reducible refine Kd.C_drew ?_))); (case side2 => exact (Kd.R_reads' HO423.out).2.1); rintro e w66 ⟨rfl, hb⟩; replace HO423 := zr HO423 hb; replace HO436 := zr HO436 hb; replace BK418 := zk BK418 hb; replace BK419 := zk BK419 hb; replace BK420 := zk BK420 hb; replace BK424 := zk BK424 hb; replace BK438 := zk BK438 hb; replace HB := zb HB hb; (try clear hb); (try clear hb2); (try clear hk); (try clear hi); obtain ⟨hcz67_0, hcz67_1, hcz67_2, hfz67_0, hfz67_1, hfz67_2⟩ := zq3 BK424; obtain ⟨hcz68_0, hcz68_1, hcz68_2, hfz68_0, hfz68_1, hfz68_2⟩ := zq3 BK438) | (go_at_call 25; (with_reducible refine (raster_Same.calls k 2 1 _ _ y421 t432 t433 _ _ t434 false _ ?side1 ?side2 ?side3 ?side4 A45.out).mono ?_); (case side1 => repeat (first | exact (Kd.R_reads' HO423.out).2.2 | (with_reducible refine Kd.C_alloc ?_ _) | (with_reducible refine Kd.C_drewN ?_ _) | (with_reducible refine Kd.C_drew ?_))); (case side2 => exact (Kd.R_reads' HO423.out).2.1); (case side3 => repeat (first | exact (Kd.R_reads' HO436.out).2.2 | (with_reducible refine Kd.C_alloc ?_ _) | (with_reducible refine Kd.C_drewN ?_ _) | (with_reducible refine Kd.C_drew ?_))); (case side4 => exact (Kd.R_reads' HO436.out).2.1); rintro e w69 ⟨rfl, hb⟩; replace HO423 := zr HO423 hb; replace HO436 := zr HO436 hb; replace BK418 := zk BK418 hb; replace BK419 := zk BK419 hb; replace BK420 := zk BK420 hb; replace BK424 := zk BK424 hb; replace BK438 := zk BK438 hb; replace HB := zb HB hb; (try clear hb); (try clear hb2); (try clear hk); (try clear hi); obtain ⟨hcz70_0, hcz70_1, hcz70_2, hfz70_0, hfz70_1, hfz70_2⟩ := zq3 BK424) | (go_at_call 25; (with_reducible refine (raster_Same.calls k 2 1 _ _ y421 2 1 _ _ y421 t445 _ ?side1 ?side2 ?side3 ?side4 A58.out).mono ?_); (case side1 => repeat (first | exact (Kd.R_reads' HO423.out).2.2 | (with_reducible refine Kd.C_alloc ?_ _) | (with_reducible refine Kd.C_drewN ?_ _) | (with_reducible refine Kd.C_drew ?_))); (case side2 => exact (Kd.R_reads' HO423.out).2.1); (case side3 => repeat (first | exact (Kd.R_reads' HO423.out).2.2 | (with_reducible refine Kd.C_alloc ?_ _) | (with_reducible refine Kd.C_drewN ?_ _) | (with_reducible refine Kd.C_drew ?_))); (case side4 => exact (Kd.R_reads' HO423.out).2.1); rintro e w71 ⟨rfl, hb⟩; replace HO423 := zr HO423 hb; replace HO436 := zr HO436 hb; replace BK418 := zk BK418 hb; replace BK419 := zk BK419 hb; replace BK420 := zk BK420 hb; replace BK424 := zk BK424 hb; replace BK438 := zk BK438 hb; replace HB := zb HB hb; (try clear hb); (try clear hb2); (try clear hk); (try clear hi)))
       go_meet
       case rel => exact ⟨_, (!t445), (by first | rfl | (simp; done) | (simp [*]; done)), H', ⟨by first | omega | exact Nat.le_refl _⟩, ⟨by (with_reducible repeat (first | apply Kd.R_alloc | apply Kd.R_drewN | apply Kd.R_drew)); exact Kd.R_mono HO423.out (fun _ hk => ⟨hk.1.1.2, ⟨hk.1.2, hk.2⟩⟩)⟩, ⟨by (with_reducible repeat (first | apply Kd.R_alloc | apply Kd.R_drewN | apply Kd.R_drew)); exact Kd.R_mono HO436.out (fun _ hk => ⟨hk.1.1.2, ⟨hk.1.2, hk.2⟩⟩)⟩, ⟨by exact zk0 BK418⟩, ⟨by exact zk0 BK419⟩, ⟨by exact zk0 BK420⟩, ⟨by exact zk0 BK424⟩, ⟨by exact zk0 BK438⟩, ⟨by exact zb0 HB⟩⟩
     ·rw [if_neg c44] at H
      have c44b0 : (t443 == 0) = false := beq_eq_false_iff_ne.mpr c44
      have c44b1 : (t443 != 0) = true := bne_iff_ne.mpr c44
      have H' := Aside0.mk H
      clear H
      obtain ⟨hcz72_0, hcz72_1, hcz72_2, hfz72_0, hfz72_1, hfz72_2⟩ := zq3 BK438
      obtain ⟨hcz73_0, hcz73_1, hcz73_2, hcz73_3, hfz73_0, hfz73_1, hfz73_2, hfz73_3⟩ := zq4 BK420
      go_wp2_with (first | ((with_reducible refine gate_dst (N := 37) rfl ?_); (try (refine gate_guard (by rfl) ?_; dsimp only)); refine Kd.R_lit k26 _ 26 ?hg (N := 37) ?hd (xs := ([(⟨0, 0, 3, 7⟩ : S26), (⟨0, 0, 3, 7⟩ : S26)] : List (S26))) (inner := [.int .i64 0, .int .i64 0, .int .i64 3, .int .i64 7, .int .i64 0, .int .i64 0, .int .i64 3, .int .i64 7]) (ok := fun _ => True) (okp := fun _ => True) ?hr ?hp (fun _ hk => hk) trivial (Below.refl _ _) (Nat.le_refl _) (by simp) ?_; (case hd => rfl); (case hg => rfl); (case hr => first | (go_simp; done) | (go_simp; rfl)); (case hp => exact (Reps.c4 (show Kd.M k26 _ _ _ (⟨0, 0, 3, 7⟩ : S26) [.int .i64 0, .int .i64 0, .int .i64 3, .int .i64 7] from (k26_mkM _ _ _ (⟨0, 0, 3, 7⟩ : S26) )) (Reps.c4 (show Kd.M k26 _ _ _ (⟨0, 0, 3, 7⟩ : S26) [.int .i64 0, .int .i64 0, .int .i64 3, .int .i64 7] from (k26_mkM _ _ _ (⟨0, 0, 3, 7⟩ : S26) )) (Reps.none _ _)))); intro v440 w74 ho75 hb hg_ hnew_; clear hg_ hnew_; (first | rw [← Ny439.out] at ho75 | (simp only [Int.reduceToNat] at ho75; rw [← Ny439.out] at ho75)); have n0_ := Aside0.mk (Kd.R_below (by exact zro HO423 BK438 (by decide)) hb); have n1_ := Aside0.mk (Kd.R_below (by exact zro HO436 BK438 (by decide)) hb); have n2_ := Aside0.mk (Kd.R_lower (Kd.R_newB (Kd.R_newB (Kd.R_newB ho75 (zf BK418 NB418_438)) (zf BK419 NB419_438)) (zf BK420 NB420_438)) (below_size (by exact zbo HB GE438))); have n3_ := Aside0.mk (blk_below (g := gb438) (o := .cells #[.int .i64 t432, .int .i64 t433, .slice Ao38 t434.length co38] 24 (0, 0)) (by exact zp BK438 rfl) hb); have n4_ := Aside0.mk (below_step (by exact zbo HB GE438) hb); replace BK418 := zfk BK418 NB418_438 hb; replace BK419 := zfk BK419 NB419_438 hb; replace BK420 := zfk BK420 NB420_438 hb; replace BK424 := zfk BK424 NB424_438 hb; clear HO423; clear HO436; clear BK438; clear HB; have HO423 := n0_; have HO436 := n1_; have HO441 := n2_; have BK438 := n3_; have HB := n4_; clear n0_ n1_ n2_ n3_ n4_; clear hb ho75; obtain ⟨Ao76, co76, eo76⟩ := Kd.R_slice HO441.out; subst eo76) | (go_at_call 20; (with_reducible refine (imageeditorlaw11_same.calls k t432 t433 _ _ t434 2 1 _ _ y439 true _ ?side1 ?side2 ?side3 ?side4 A41.out).mono ?_); (case side1 => repeat (first | exact (Kd.R_reads' HO436.out).2.2 | (with_reducible refine Kd.C_alloc ?_ _) | (with_reducible refine Kd.C_drewN ?_ _) | (with_reducible refine Kd.C_drew ?_))); (case side2 => exact (Kd.R_reads' HO436.out).2.1); (case side3 => repeat (first | exact (Kd.R_reads' HO441.out).2.2 | (with_reducible refine Kd.C_alloc ?_ _) | (with_reducible refine Kd.C_drewN ?_ _) | (with_reducible refine Kd.C_drew ?_))); (case side4 => exact (Kd.R_reads' HO441.out).2.1); rintro e w77 ⟨rfl, hb⟩; replace HO423 := zr HO423 hb; replace HO436 := zr HO436 hb; replace HO441 := zr HO441 hb; replace BK418 := zk BK418 hb; replace BK419 := zk BK419 hb; replace BK420 := zk BK420 hb; replace BK424 := zk BK424 hb; replace BK438 := zk BK438 hb; replace HB := zb HB hb; (try clear hb); (try clear hb2); (try clear hk); (try clear hi); obtain ⟨hcz78_0, hcz78_1, hcz78_2, hfz78_0, hfz78_1, hfz78_2⟩ := zq3 BK424; (try clear HO441)) | (go_at_call 18; (with_reducible refine (raster_Check.calls k 2 1 _ _ y421 t443 _ ?side1 ?side2 A43.out).mono ?_); (case side1 => repeat (first | exact (Kd.R_reads' HO423.out).2.2 | (with_reducible refine Kd.C_alloc ?_ _) | (with_reducible refine Kd.C_drewN ?_ _) | (with_reducible refine Kd.C_drew ?_))); (case side2 => exact (Kd.R_reads' HO423.out).2.1); rintro e w79 ⟨rfl, hb⟩; replace HO423 := zr HO423 hb; replace HO436 := zr HO436 hb; replace BK418 := zk BK418 hb; replace BK419 := zk BK419 hb; replace BK420 := zk BK420 hb; replace BK424 := zk BK424 hb; replace BK438 := zk BK438 hb; replace HB := zb HB hb; (try clear hb); (try clear hb2); (try clear hk); (try clear hi)))
      go_meet
      case rel => exact ⟨_, (true), (by first | rfl | (simp; done) | (simp [*]; done)), H', ⟨by first | omega | exact Nat.le_refl _⟩, ⟨by (with_reducible repeat (first | apply Kd.R_alloc | apply Kd.R_drewN | apply Kd.R_drew)); exact Kd.R_mono HO423.out (fun _ hk => ⟨hk.1.1.2, ⟨hk.1.2, hk.2⟩⟩)⟩, ⟨by (with_reducible repeat (first | apply Kd.R_alloc | apply Kd.R_drewN | apply Kd.R_drew)); exact Kd.R_mono HO436.out (fun _ hk => ⟨hk.1.1.2, ⟨hk.1.2, hk.2⟩⟩)⟩, ⟨by exact zk0 BK418⟩, ⟨by exact zk0 BK419⟩, ⟨by exact zk0 BK420⟩, ⟨by exact zk0 BK424⟩, ⟨by exact zk0 BK438⟩, ⟨by exact zb0 HB⟩⟩
    ·replace c42 := Bool.eq_false_iff.mpr c42
     subst c42
     have H1 : (imageeditorlaw11_awake.j0 k true 1 0 0 9 0 2 0 8 0 0 3 7 2 1 y421) = some r := by rw [if_neg (show ¬ (false = true) by decide)] at H; exact H
     clear H
     have H := H1
     clear H1
     have H' := Aside0.mk H
     clear H
     obtain ⟨hcz80_0, hcz80_1, hcz80_2, hfz80_0, hfz80_1, hfz80_2⟩ := zq3 BK438
     obtain ⟨hcz81_0, hcz81_1, hcz81_2, hcz81_3, hfz81_0, hfz81_1, hfz81_2, hfz81_3⟩ := zq4 BK420
     go_wp2_with (first | ((with_reducible refine gate_dst (N := 37) rfl ?_); (try (refine gate_guard (by rfl) ?_; dsimp only)); refine Kd.R_lit k26 _ 26 ?hg (N := 37) ?hd (xs := ([(⟨0, 0, 3, 7⟩ : S26), (⟨0, 0, 3, 7⟩ : S26)] : List (S26))) (inner := [.int .i64 0, .int .i64 0, .int .i64 3, .int .i64 7, .int .i64 0, .int .i64 0, .int .i64 3, .int .i64 7]) (ok := fun _ => True) (okp := fun _ => True) ?hr ?hp (fun _ hk => hk) trivial (Below.refl _ _) (Nat.le_refl _) (by simp) ?_; (case hd => rfl); (case hg => rfl); (case hr => first | (go_simp; done) | (go_simp; rfl)); (case hp => exact (Reps.c4 (show Kd.M k26 _ _ _ (⟨0, 0, 3, 7⟩ : S26) [.int .i64 0, .int .i64 0, .int .i64 3, .int .i64 7] from (k26_mkM _ _ _ (⟨0, 0, 3, 7⟩ : S26) )) (Reps.c4 (show Kd.M k26 _ _ _ (⟨0, 0, 3, 7⟩ : S26) [.int .i64 0, .int .i64 0, .int .i64 3, .int .i64 7] from (k26_mkM _ _ _ (⟨0, 0, 3, 7⟩ : S26) )) (Reps.none _ _)))); intro v440 w82 ho83 hb hg_ hnew_; clear hg_ hnew_; (first | rw [← Ny439.out] at ho83 | (simp only [Int.reduceToNat] at ho83; rw [← Ny439.out] at ho83)); have n0_ := Aside0.mk (Kd.R_below (by exact zro HO423 BK438 (by decide)) hb); have n1_ := Aside0.mk (Kd.R_below (by exact zro HO436 BK438 (by decide)) hb); have n2_ := Aside0.mk (Kd.R_lower (Kd.R_newB (Kd.R_newB (Kd.R_newB ho83 (zf BK418 NB418_438)) (zf BK419 NB419_438)) (zf BK420 NB420_438)) (below_size (by exact zbo HB GE438))); have n3_ := Aside0.mk (blk_below (g := gb438) (o := .cells #[.int .i64 t432, .int .i64 t433, .slice Ao38 t434.length co38] 24 (0, 0)) (by exact zp BK438 rfl) hb); have n4_ := Aside0.mk (below_step (by exact zbo HB GE438) hb); replace BK418 := zfk BK418 NB418_438 hb; replace BK419 := zfk BK419 NB419_438 hb; replace BK420 := zfk BK420 NB420_438 hb; replace BK424 := zfk BK424 NB424_438 hb; clear HO423; clear HO436; clear BK438; clear HB; have HO423 := n0_; have HO436 := n1_; have HO441 := n2_; have BK438 := n3_; have HB := n4_; clear n0_ n1_ n2_ n3_ n4_; clear hb ho83; obtain ⟨Ao84, co84, eo84⟩ := Kd.R_slice HO441.out; subst eo84) | (go_at_call 20; (with_reducible refine (imageeditorlaw11_same.calls k t432 t433 _ _ t434 2 1 _ _ y439 false _ ?side1 ?side2 ?side3 ?side4 A41.out).mono ?_); (case side1 => repeat (first | exact (Kd.R_reads' HO436.out).2.2 | (with_reducible refine Kd.C_alloc ?_ _) | (with_reducible refine Kd.C_drewN ?_ _) | (with_reducible refine Kd.C_drew ?_))); (case side2 => exact (Kd.R_reads' HO436.out).2.1); (case side3 => repeat (first | exact (Kd.R_reads' HO441.out).2.2 | (with_reducible refine Kd.C_alloc ?_ _) | (with_reducible refine Kd.C_drewN ?_ _) | (with_reducible refine Kd.C_drew ?_))); (case side4 => exact (Kd.R_reads' HO441.out).2.1); rintro e w85 ⟨rfl, hb⟩; replace HO423 := zr HO423 hb; replace HO436 := zr HO436 hb; replace HO441 := zr HO441 hb; replace BK418 := zk BK418 hb; replace BK419 := zk BK419 hb; replace BK420 := zk BK420 hb; replace BK424 := zk BK424 hb; replace BK438 := zk BK438 hb; replace HB := zb HB hb; (try clear hb); (try clear hb2); (try clear hk); (try clear hi)))
     go_meet
     case rel => exact ⟨_, (true), (by first | rfl | (simp; done) | (simp [*]; done)), H', ⟨by first | omega | exact Nat.le_refl _⟩, ⟨by (with_reducible repeat (first | apply Kd.R_alloc | apply Kd.R_drewN | apply Kd.R_drew)); exact Kd.R_mono HO423.out (fun _ hk => ⟨hk.1.1.2, ⟨hk.1.2, hk.2⟩⟩)⟩, ⟨by (with_reducible repeat (first | apply Kd.R_alloc | apply Kd.R_drewN | apply Kd.R_drew)); exact Kd.R_mono HO436.out (fun _ hk => ⟨hk.1.1.2, ⟨hk.1.2, hk.2⟩⟩)⟩, ⟨by exact zk0 BK418⟩, ⟨by exact zk0 BK419⟩, ⟨by exact zk0 BK420⟩, ⟨by exact zk0 BK424⟩, ⟨by exact zk0 BK438⟩, ⟨by exact zb0 HB⟩⟩
   ·rw [if_neg c40] at H
    have c40b0 : (t437 == 0) = false := beq_eq_false_iff_ne.mpr c40
    have c40b1 : (t437 != 0) = true := bne_iff_ne.mpr c40
    have H' := Aside0.mk H
    clear H
    go_wp2
    go_meet
    case rel => exact ⟨_, (true), (by first | rfl | (simp; done) | (simp [*]; done)), H', ⟨by first | omega | exact Nat.le_refl _⟩, ⟨by (with_reducible repeat (first | apply Kd.R_alloc | apply Kd.R_drewN | apply Kd.R_drew)); exact Kd.R_mono (Kd.R_far (p := ⟨gb438, 2, none⟩) (Kd.R_far (p := ⟨gb438, 1, none⟩) (Kd.R_far (p := ⟨gb438, 0, none⟩) (Kd.R_types HO423.out BK438.out (by decide)) (fun _ hk => hk.2) (.int .i64 t432)) (fun _ hk => hk.2) (.int .i64 t433)) (fun _ hk => hk.2) (.slice Ao38 t434.length co38)) (fun _ hk => ⟨hk.1.1.1.2, ⟨hk.1.1.2, hk.1.2⟩⟩)⟩, ⟨by (with_reducible repeat (first | apply Kd.R_alloc | apply Kd.R_drewN | apply Kd.R_drew)); exact Kd.R_mono (Kd.R_far (p := ⟨gb438, 2, none⟩) (Kd.R_far (p := ⟨gb438, 1, none⟩) (Kd.R_far (p := ⟨gb438, 0, none⟩) (Kd.R_types HO436.out BK438.out (by decide)) (fun _ hk => hk.2) (.int .i64 t432)) (fun _ hk => hk.2) (.int .i64 t433)) (fun _ hk => hk.2) (.slice Ao38 t434.length co38)) (fun _ hk => ⟨hk.1.1.1.2, ⟨hk.1.1.2, hk.1.2⟩⟩)⟩, ⟨by exact zf BK418 NB418_438⟩, ⟨by exact zf BK419 NB419_438⟩, ⟨by exact zf BK420 NB420_438⟩, ⟨by exact zf BK424 NB424_438⟩, ⟨by exact zp BK438 rfl⟩, ⟨by exact zbo HB GE438⟩⟩
  ·rw [if_neg c39] at H
   have c39b0 : (t430 == 15) = false := beq_eq_false_iff_ne.mpr c39
   have c39b1 : (t430 != 15) = true := bne_iff_ne.mpr c39
   (first | rw [c39b0] | (simp only [i64_w, i32_w]; rw [c39b0]) | skip)
   have H' := Aside0.mk H
   clear H
   go_wp2
   go_meet
   case rel => exact ⟨_, (true), (by first | rfl | (simp; done) | (simp [*]; done)), H', ⟨by first | omega | exact Nat.le_refl _⟩, ⟨by (with_reducible repeat (first | apply Kd.R_alloc | apply Kd.R_drewN | apply Kd.R_drew)); exact Kd.R_mono (Kd.R_far (p := ⟨gb438, 2, none⟩) (Kd.R_far (p := ⟨gb438, 1, none⟩) (Kd.R_far (p := ⟨gb438, 0, none⟩) (Kd.R_types HO423.out BK438.out (by decide)) (fun _ hk => hk.2) (.int .i64 t432)) (fun _ hk => hk.2) (.int .i64 t433)) (fun _ hk => hk.2) (.slice Ao38 t434.length co38)) (fun _ hk => ⟨hk.1.1.1.2, ⟨hk.1.1.2, hk.1.2⟩⟩)⟩, ⟨by (with_reducible repeat (first | apply Kd.R_alloc | apply Kd.R_drewN | apply Kd.R_drew)); exact Kd.R_mono (Kd.R_far (p := ⟨gb438, 2, none⟩) (Kd.R_far (p := ⟨gb438, 1, none⟩) (Kd.R_far (p := ⟨gb438, 0, none⟩) (Kd.R_types HO436.out BK438.out (by decide)) (fun _ hk => hk.2) (.int .i64 t432)) (fun _ hk => hk.2) (.int .i64 t433)) (fun _ hk => hk.2) (.slice Ao38 t434.length co38)) (fun _ hk => ⟨hk.1.1.1.2, ⟨hk.1.1.2, hk.1.2⟩⟩)⟩, ⟨by exact zf BK418 NB418_438⟩, ⟨by exact zf BK419 NB419_438⟩, ⟨by exact zf BK420 NB420_438⟩, ⟨by exact zf BK424 NB424_438⟩, ⟨by exact zp BK438 rfl⟩, ⟨by exact zbo HB GE438⟩⟩
 case rest =>
  clear HC3
  try clear c1
  try clear c2
  try clear p2
  try clear c3
  try clear q3
  try clear c4
  try clear q4
  try clear c7
  try clear c8
  try clear c10
  try clear c15
  try clear c17
  try clear c18
  try clear c19
  try clear c24
  try clear c25
  try clear c26
  try clear c27
  try clear c33
  try clear c34
  try clear c35
  try clear c36
  try clear c39
  try clear c39b0
  try clear c39b1
  try clear c40
  try clear c40b0
  try clear c40b1
  try clear c42
  try clear c44
  try clear c44b0
  try clear c44b1
  try clear c46
  try clear hcz11_0
  try clear hcz11_1
  try clear hcz11_2
  try clear hcz11_3
  try clear hcz12_0
  try clear hcz12_1
  try clear hcz12_2
  try clear hcz12_3
  try clear hcz20_0
  try clear hcz20_1
  try clear hcz20_2
  try clear hcz21_0
  try clear hcz21_1
  try clear hcz21_2
  try clear hcz21_3
  try clear hcz28_0
  try clear hcz28_1
  try clear hcz28_2
  try clear hcz30_0
  try clear hcz30_1
  try clear hcz30_2
  try clear hcz30_3
  try clear hcz37_0
  try clear hcz37_1
  try clear hcz37_2
  try clear hcz47_0
  try clear hcz47_1
  try clear hcz47_2
  try clear hcz48_0
  try clear hcz48_1
  try clear hcz48_2
  try clear hcz48_3
  try clear hcz53_0
  try clear hcz53_1
  try clear hcz53_2
  try clear hcz55_0
  try clear hcz55_1
  try clear hcz55_2
  try clear hcz56_0
  try clear hcz56_1
  try clear hcz56_2
  try clear hcz59_0
  try clear hcz59_1
  try clear hcz59_2
  try clear hcz60_0
  try clear hcz60_1
  try clear hcz60_2
  try clear hcz60_3
  try clear hcz65_0
  try clear hcz65_1
  try clear hcz65_2
  try clear hcz67_0
  try clear hcz67_1
  try clear hcz67_2
  try clear hcz68_0
  try clear hcz68_1
  try clear hcz68_2
  try clear hcz70_0
  try clear hcz70_1
  try clear hcz70_2
  try clear hcz72_0
  try clear hcz72_1
  try clear hcz72_2
  try clear hcz73_0
  try clear hcz73_1
  try clear hcz73_2
  try clear hcz73_3
  try clear hcz78_0
  try clear hcz78_1
  try clear hcz78_2
  try clear hcz80_0
  try clear hcz80_1
  try clear hcz80_2
  try clear hcz81_0
  try clear hcz81_1
  try clear hcz81_2
  try clear hcz81_3
  try clear hcz9_0
  try clear hcz9_1
  try clear hcz9_2
  try clear hcz9_3
  try clear hfz11_0
  try clear hfz11_1
  try clear hfz11_2
  try clear hfz11_3
  try clear hfz12_0
  try clear hfz12_1
  try clear hfz12_2
  try clear hfz12_3
  try clear hfz20_0
  try clear hfz20_1
  try clear hfz20_2
  try clear hfz21_0
  try clear hfz21_1
  try clear hfz21_2
  try clear hfz21_3
  try clear hfz28_0
  try clear hfz28_1
  try clear hfz28_2
  try clear hfz30_0
  try clear hfz30_1
  try clear hfz30_2
  try clear hfz30_3
  try clear hfz37_0
  try clear hfz37_1
  try clear hfz37_2
  try clear hfz47_0
  try clear hfz47_1
  try clear hfz47_2
  try clear hfz48_0
  try clear hfz48_1
  try clear hfz48_2
  try clear hfz48_3
  try clear hfz53_0
  try clear hfz53_1
  try clear hfz53_2
  try clear hfz55_0
  try clear hfz55_1
  try clear hfz55_2
  try clear hfz56_0
  try clear hfz56_1
  try clear hfz56_2
  try clear hfz59_0
  try clear hfz59_1
  try clear hfz59_2
  try clear hfz60_0
  try clear hfz60_1
  try clear hfz60_2
  try clear hfz60_3
  try clear hfz65_0
  try clear hfz65_1
  try clear hfz65_2
  try clear hfz67_0
  try clear hfz67_1
  try clear hfz67_2
  try clear hfz68_0
  try clear hfz68_1
  try clear hfz68_2
  try clear hfz70_0
  try clear hfz70_1
  try clear hfz70_2
  try clear hfz72_0
  try clear hfz72_1
  try clear hfz72_2
  try clear hfz73_0
  try clear hfz73_1
  try clear hfz73_2
  try clear hfz73_3
  try clear hfz78_0
  try clear hfz78_1
  try clear hfz78_2
  try clear hfz80_0
  try clear hfz80_1
  try clear hfz80_2
  try clear hfz81_0
  try clear hfz81_1
  try clear hfz81_2
  try clear hfz81_3
  try clear hfz9_0
  try clear hfz9_1
  try clear hfz9_2
  try clear hfz9_3
  obtain ⟨kq, x57_2, rfl, HA, HJ2, HO_425002, HO_439002, BK418, BK419, BK420, BK424, BK438, HB⟩ := hcut
  cases kq with
  | zero => exact absurd HA.out (by simp [imageeditorlaw11_awake.j0])
  | succ kj2 =>
   have H := HA.out
   clear HA
   simp only [imageeditorlaw11_awake.j0] at H
   by_cases c86 : x57_2 = true
   ·subst c86
    have H1 : (some false) = some r := by rw [if_pos rfl] at H; exact H
    clear H
    have H := H1
    clear H1
    exact absurd HT.out (by rw [← Option.some.inj H]; decide)
   ·replace c86 := Bool.eq_false_iff.mpr c86
    subst c86
    have H1 : ((raster_Edge.f kj2 2 1 y421 5 9).bind fun bt446 => (if (!(bt446.1 == 0) || (!(bt446.2.1 == 2) || (!(bt446.2.2.1 == 0) || (!(bt446.2.2.2 == 8))))) = true then (imageeditorlaw11_awake.j1 kj2 true 1 0 0 9 0 2 0 8 0 0 3 7 2 1 y421) else ((raster_Edge.f kj2 2 1 y421 (-5) 0).bind fun bt450 => (if (!(bt450.1 == 1) || (!(bt450.2.1 == 0) || (!(bt450.2.2.1 == 0) || (!(bt450.2.2.2 == 9))))) = true then (imageeditorlaw11_awake.j1 kj2 true 1 0 0 9 0 2 0 8 0 0 3 7 2 1 y421) else ((raster_At.f kj2 2 1 y421 2 0).bind fun bt454 => (if (!(bt454.1 == 0) || (!(bt454.2.1 == 0) || (!(bt454.2.2.1 == 0) || (!(bt454.2.2.2 == 0))))) = true then (imageeditorlaw11_awake.j1 kj2 true 1 0 0 9 0 2 0 8 0 0 3 7 2 1 y421) else ((raster_At.f kj2 2 1 y421 1 0).bind fun bt458 => (imageeditorlaw11_awake.j1 kj2 (!(bt458.1 == 0) || (!(bt458.2.1 == 2) || (!(bt458.2.2.1 == 0) || (!(bt458.2.2.2 == 8))))) 1 0 0 9 0 2 0 8 0 0 3 7 2 1 y421)))))))) = some r := by rw [if_neg (show ¬ (false = true) by decide)] at H; exact H
    clear H
    have H := H1
    clear H1
    have HC87 := Aside0.mk H
    clear H
    go_upto_region 7 with (fail)
    go_cut [79] (fun v79 wc => ∃ (kq : Nat) (x79_86 : Bool), v79 = .bool x79_86 ∧ Aside0 (imageeditorlaw11_awake.j1 kq x79_86 1 0 0 9 0 2 0 8 0 0 3 7 2 1 y421 = some r) ∧ Aside0 (kq ≤ kj2) ∧ Aside0 (Kd.R k26 26 wc w.heap.size (fun k_ => k_ ≠ gb418 ∧ k_ ≠ gb419 ∧ k_ ≠ gb420) (.slice Ao15 y421.length co15) y421) ∧ Aside0 (Kd.R k26 26 wc w.heap.size (fun k_ => k_ ≠ gb418 ∧ k_ ≠ gb419 ∧ k_ ≠ gb420) (.slice Ao38 t434.length co38) t434) ∧ Aside0 (wc.heap[gb418]? = some (.cells #[.int .i64 1, .int .i64 0, .int .i64 0, .int .i64 9] 26 (0, 0))) ∧ Aside0 (wc.heap[gb419]? = some (.cells #[.int .i64 0, .int .i64 2, .int .i64 0, .int .i64 8] 26 (0, 0))) ∧ Aside0 (wc.heap[gb420]? = some (.cells #[.int .i64 0, .int .i64 0, .int .i64 3, .int .i64 7] 26 (0, 0))) ∧ Aside0 (wc.heap[gb424]? = some (.cells #[.int .i64 2, .int .i64 1, (.slice Ao15 y421.length co15)] 24 (0, 0))) ∧ Aside0 (wc.heap[gb438]? = some (.cells #[.int .i64 t432, .int .i64 t433, (.slice Ao38 t434.length co38)] 24 (0, 0))) ∧ Aside0 (Below w.heap.size w wc))
    case first =>
     have H := HC87.out
     clear HC87
     replace H := Option.bind_eq_some_iff.mp H
     obtain ⟨⟨t446, t447, t448, t449⟩, A880, H⟩ := H
     replace H : (if (!(t446 == 0) || (!(t447 == 2) || (!(t448 == 0) || (!(t449 == 8))))) = true then (imageeditorlaw11_awake.j1 kj2 true 1 0 0 9 0 2 0 8 0 0 3 7 2 1 y421) else ((raster_Edge.f kj2 2 1 y421 (-5) 0).bind fun bt450 => (if (!(bt450.1 == 1) || (!(bt450.2.1 == 0) || (!(bt450.2.2.1 == 0) || (!(bt450.2.2.2 == 9))))) = true then (imageeditorlaw11_awake.j1 kj2 true 1 0 0 9 0 2 0 8 0 0 3 7 2 1 y421) else ((raster_At.f kj2 2 1 y421 2 0).bind fun bt454 => (if (!(bt454.1 == 0) || (!(bt454.2.1 == 0) || (!(bt454.2.2.1 == 0) || (!(bt454.2.2.2 == 0))))) = true then (imageeditorlaw11_awake.j1 kj2 true 1 0 0 9 0 2 0 8 0 0 3 7 2 1 y421) else ((raster_At.f kj2 2 1 y421 1 0).bind fun bt458 => (imageeditorlaw11_awake.j1 kj2 (!(bt458.1 == 0) || (!(bt458.2.1 == 2) || (!(bt458.2.2.1 == 0) || (!(bt458.2.2.2 == 8))))) 1 0 0 9 0 2 0 8 0 0 3 7 2 1 y421))))))) = some r := H
     have A88 := Aside0.mk A880
     clear A880
     by_cases c89 : (!(t446 == 0) || (!(t447 == 2) || (!(t448 == 0) || (!(t449 == 8))))) = true
     ·rw [if_pos c89] at H
      have c89b0 : (!(t446 == 0) || (!(t447 == 2) || (!(t448 == 0) || (!(t449 == 8))))) = true := c89
      clear c89
      (first | rw [c89b0] | (simp only [i64_w, i32_w]; rw [c89b0]) | skip)
      have H' := Aside0.mk H
      clear H
      try go_wp2
      replace HO_425002 := zrd HO_425002
      replace HO_439002 := zrd HO_439002
      replace BK418 := zkd BK418
      replace BK419 := zkd BK419
      replace BK420 := zkd BK420
      replace BK424 := zkd BK424
      replace BK438 := zkd BK438
      replace HB := zbd HB
      refine start_ (n := 22) (S := fun w' => w'.cell? ⟨gb424, 0, none⟩ = some (.int .i64 2) ∧ w'.cell? ⟨gb424, 1, none⟩ = some (.int .i64 1) ∧ w'.cell? ⟨gb424, 2, none⟩ = some (.slice Ao15 y421.length co15) ∧ w'.cell? ⟨gb419, 0, none⟩ = some (.int .i64 0) ∧ w'.cell? ⟨gb419, 1, none⟩ = some (.int .i64 2) ∧ w'.cell? ⟨gb419, 2, none⟩ = some (.int .i64 0) ∧ w'.cell? ⟨gb419, 3, none⟩ = some (.int .i64 8)) (ds := []) (bs 22 0) (by kernel_rfl) rfl rfl ⟨(blk_cell BK424.out 0).trans rfl, (blk_cell BK424.out 1).trans rfl, (blk_cell BK424.out 2).trans rfl, (blk_cell BK419.out 0).trans rfl, (blk_cell BK419.out 1).trans rfl, (blk_cell BK419.out 2).trans rfl, (blk_cell BK419.out 3).trans rfl⟩ (fun hHeld => ?_); refine with_tabW imageeditorlaw11_awake.tab7 imageeditorlaw11_awake.bits7 (fun HT_ HW_ => ?_)
      generalize wc.drew = w90 at HO_425002 HO_439002 BK418 BK419 BK420 BK424 BK438 HB hHeld ⊢
      refine take_ (i := 0) (N := some 58) (v := ?_) (a' := ?_) (bs 22 1) rfl rfl (take_ofW HT_.out HW_.out (by kernel_rfl)) (fun _ _ _ h => h) (Or.inl ⟨by rfl, ?_⟩) hHeld ?_ ?_
      rotate_left
      ·rintro w' ⟨s0, s1, s2, s3, s4, s5, s6⟩
       go_simp
       with_reducible rfl
      rotate_left
      ·simp only [Act.put, sA, sB, sC, i64_w, i32_w]
       rfl
      refine take_ (i := 2) (N := some 60) (v := ?_) (a' := ?_) (bs 22 5) rfl rfl (take_ofW HT_.out HW_.out (by kernel_rfl)) (fun _ _ _ h => h) (Or.inl ⟨by rfl, ?_⟩) hHeld ?_ ?_
      rotate_left
      ·rintro w' ⟨s0, s1, s2, s3, s4, s5, s6⟩
       go_simp
       with_reducible rfl
      rotate_left
      ·simp only [Act.put, sA, sB, sC, i64_w, i32_w]
       rfl
      refine one_ (i := 1) (N := some 59) (bs 22 7) rfl rfl (one_of HT_.out (by kernel_rfl)) (by decide) (fun K hK => ?_)
      refine goes_ Try.func23 (by kernel_rfl) rfl #[.agg #[.int .i64 2, .int .i64 1, .slice Ao15 y421.length co15], .int .i64 5, .int .i64 9] (by rfl) rfl rfl (by (try simp only [List.map_toArray, List.map_cons, List.map_nil]); first | done | rfl | (simp only [List.length_drop, List.length_take]; rfl)) ?_
      with_reducible refine (raster_Edge.calls kj2 2 1 _ _ y421 5 9 t446 t447 t448 t449 _ ?side1 ?side2 A88.out).mono ?_
      (case side1 => repeat (first | exact (Kd.R_reads' HO_425002.out).2.2 | (with_reducible refine Kd.C_alloc ?_ _) | (with_reducible refine Kd.C_drewN ?_ _) | (with_reducible refine Kd.C_drew ?_)))
      (case side2 => exact (Kd.R_reads' HO_425002.out).2.1)
      rintro e w91 ⟨rfl, hb⟩
      refine ⟨_, rfl, ?_⟩
      replace HO_425002 := zr HO_425002 hb
      replace HO_439002 := zr HO_439002 hb
      replace BK418 := zk BK418 hb
      replace BK419 := zk BK419 hb
      replace BK420 := zk BK420 hb
      replace BK424 := zk BK424 hb
      replace BK438 := zk BK438 hb
      replace HB := zb HB hb
      (try clear hb)
      (try clear hb2)
      (try clear hk)
      (try clear hi)
      refine hK.out _ _ ⟨(blk_cell BK424.out 0).trans rfl, (blk_cell BK424.out 1).trans rfl, (blk_cell BK424.out 2).trans rfl, (blk_cell BK419.out 0).trans rfl, (blk_cell BK419.out 1).trans rfl, (blk_cell BK419.out 2).trans rfl, (blk_cell BK419.out 3).trans rfl⟩ (fun hHeld => ?_)
      clear hK K
      refine norm_ (a' := ?_) ?_ ?_
      rotate_left
      ·show Act.put _ (some 59) _ = _
       simp only [Act.put, sA, sB, sC, i64_w, i32_w]
       rfl
      refine pure_ (i := 3) (N := some 61) (v := ?_) (a' := ?_) (bs 22 15) rfl rfl (any_of HT_.out (by kernel_rfl)) (fun _ _ _ h => h) (Or.inl ⟨by rfl, ?_⟩) ?_ ?_
      rotate_left
      ·intro w'
       go_simp
       with_reducible rfl
      rotate_left
      ·simp only [Act.put, sA, sB, sC, i64_w, i32_w]
       rfl
      refine pure_ (i := 4) (N := some 62) (v := ?_) (a' := ?_) (bs 22 31) rfl rfl (any_of HT_.out (by kernel_rfl)) (fun _ _ _ h => h) (Or.inl ⟨by rfl, ?_⟩) ?_ ?_
      rotate_left
      ·intro w'
       go_simp
       with_reducible rfl
      rotate_left
      ·simp only [Act.put, sA, sB, sC, i64_w, i32_w]
       rfl
      refine pure_ (i := 5) (N := some 63) (v := undef) (a' := ?_) (bs 22 63) rfl rfl (any_of HT_.out (by kernel_rfl)) (fun _ _ _ h => h) (Or.inr ⟨by rfl, rfl⟩) ?_ ?_
      rotate_left
      ·simp only [Act.put, sA, sB, sC, i64_w, i32_w]
       rfl
      refine pure_ (i := 6) (N := some 64) (v := undef) (a' := ?_) (bs 22 127) rfl rfl (any_of HT_.out (by kernel_rfl)) (fun _ _ _ h => h) (Or.inr ⟨by rfl, rfl⟩) ?_ ?_
      rotate_left
      ·simp only [Act.put, sA, sB, sC, i64_w, i32_w]
       rfl
      refine pure_ (i := 7) (N := some 65) (v := undef) (a' := ?_) (bs 22 255) rfl rfl (any_of HT_.out (by kernel_rfl)) (fun _ _ _ h => h) (Or.inr ⟨by rfl, rfl⟩) ?_ ?_
      rotate_left
      ·simp only [Act.put, sA, sB, sC, i64_w, i32_w]
       rfl
      refine pure_ (i := 8) (N := some 66) (v := undef) (a' := ?_) (bs 22 511) rfl rfl (any_of HT_.out (by kernel_rfl)) (fun _ _ _ h => h) (Or.inr ⟨by rfl, rfl⟩) ?_ ?_
      rotate_left
      ·simp only [Act.put, sA, sB, sC, i64_w, i32_w]
       rfl
      refine pure_ (i := 9) (N := some 67) (v := ?_) (a' := ?_) (bs 22 1023) rfl rfl (any_of HT_.out (by kernel_rfl)) (fun _ _ _ h => h) (Or.inl ⟨by rfl, ?_⟩) ?_ ?_
      rotate_left
      ·intro w'
       go_simp
       with_reducible rfl
      rotate_left
      ·simp only [Act.put, sA, sB, sC, i64_w, i32_w]
       rfl
      refine pure_ (i := 10) (N := some 68) (v := ?_) (a' := ?_) (bs 22 2047) rfl rfl (any_of HT_.out (by kernel_rfl)) (fun _ _ _ h => h) (Or.inl ⟨by rfl, ?_⟩) ?_ ?_
      rotate_left
      ·intro w'
       go_simp
       with_reducible rfl
      rotate_left
      ·simp only [Act.put, sA, sB, sC, i64_w, i32_w]
       rfl
      refine pure_ (i := 11) (N := some 69) (v := undef) (a' := ?_) (bs 22 4095) rfl rfl (any_of HT_.out (by kernel_rfl)) (fun _ _ _ h => h) (Or.inr ⟨by rfl, rfl⟩) ?_ ?_
      rotate_left
      ·simp only [Act.put, sA, sB, sC, i64_w, i32_w]
       rfl
      refine pure_ (i := 12) (N := some 70) (v := undef) (a' := ?_) (bs 22 8191) rfl rfl (any_of HT_.out (by kernel_rfl)) (fun _ _ _ h => h) (Or.inr ⟨by rfl, rfl⟩) ?_ ?_
      rotate_left
      ·simp only [Act.put, sA, sB, sC, i64_w, i32_w]
       rfl
      refine pure_ (i := 13) (N := some 71) (v := undef) (a' := ?_) (bs 22 16383) rfl rfl (any_of HT_.out (by kernel_rfl)) (fun _ _ _ h => h) (Or.inr ⟨by rfl, rfl⟩) ?_ ?_
      rotate_left
      ·simp only [Act.put, sA, sB, sC, i64_w, i32_w]
       rfl
      refine pure_ (i := 14) (N := some 72) (v := undef) (a' := ?_) (bs 22 32767) rfl rfl (any_of HT_.out (by kernel_rfl)) (fun _ _ _ h => h) (Or.inr ⟨by rfl, rfl⟩) ?_ ?_
      rotate_left
      ·simp only [Act.put, sA, sB, sC, i64_w, i32_w]
       rfl
      refine pure_ (i := 15) (N := some 73) (v := ?_) (a' := ?_) (bs 22 65535) rfl rfl (any_of HT_.out (by kernel_rfl)) (fun _ _ _ h => h) (Or.inl ⟨by rfl, ?_⟩) ?_ ?_
      rotate_left
      ·intro w'
       go_simp
       with_reducible rfl
      rotate_left
      ·simp only [Act.put, sA, sB, sC, i64_w, i32_w]
       rfl
      refine pure_ (i := 16) (N := some 74) (v := ?_) (a' := ?_) (bs 22 131071) rfl rfl (any_of HT_.out (by kernel_rfl)) (fun _ _ _ h => h) (Or.inl ⟨by rfl, ?_⟩) ?_ ?_
      rotate_left
      ·intro w'
       go_simp
       with_reducible rfl
      rotate_left
      ·simp only [Act.put, sA, sB, sC, i64_w, i32_w]
       rfl
      refine pure_ (i := 17) (N := some 75) (v := undef) (a' := ?_) (bs 22 262143) rfl rfl (any_of HT_.out (by kernel_rfl)) (fun _ _ _ h => h) (Or.inr ⟨by rfl, rfl⟩) ?_ ?_
      rotate_left
      ·simp only [Act.put, sA, sB, sC, i64_w, i32_w]
       rfl
      refine pure_ (i := 18) (N := some 76) (v := undef) (a' := ?_) (bs 22 524287) rfl rfl (any_of HT_.out (by kernel_rfl)) (fun _ _ _ h => h) (Or.inr ⟨by rfl, rfl⟩) ?_ ?_
      rotate_left
      ·simp only [Act.put, sA, sB, sC, i64_w, i32_w]
       rfl
      refine pure_ (i := 19) (N := some 77) (v := undef) (a' := ?_) (bs 22 1048575) rfl rfl (any_of HT_.out (by kernel_rfl)) (fun _ _ _ h => h) (Or.inr ⟨by rfl, rfl⟩) ?_ ?_
      rotate_left
      ·simp only [Act.put, sA, sB, sC, i64_w, i32_w]
       rfl
      refine pure_ (i := 20) (N := some 78) (v := undef) (a' := ?_) (bs 22 2097151) rfl rfl (any_of HT_.out (by kernel_rfl)) (fun _ _ _ h => h) (Or.inr ⟨by rfl, rfl⟩) ?_ ?_
      rotate_left
      ·simp only [Act.put, sA, sB, sC, i64_w, i32_w]
       rfl
      refine pure_ (i := 21) (N := some 79) (v := ?_) (a' := ?_) (bs 22 4194303) rfl rfl (any_of HT_.out (by kernel_rfl)) (fun _ _ _ h => h) (Or.inl ⟨by rfl, ?_⟩) ?_ ?_
      rotate_left
      ·intro w'
       go_simp
       with_reducible rfl
      rotate_left
      ·simp only [Act.put, sA, sB, sC, i64_w, i32_w]
       rfl
      refine done_ (done_of HT_.out (by kernel_rfl)) ?_
      try go_wp2
      go_meet
      case rel => exact ⟨_, (true), (by first | rfl | (simp; done) | (simp [*]; done)), H', ⟨by have := HJ2.out; first | omega | exact Nat.le_refl _⟩, ⟨by exact zr0 HO_425002⟩, ⟨by exact zr0 HO_439002⟩, ⟨by exact zk0 BK418⟩, ⟨by exact zk0 BK419⟩, ⟨by exact zk0 BK420⟩, ⟨by exact zk0 BK424⟩, ⟨by exact zk0 BK438⟩, ⟨by exact zb0 HB⟩⟩
     ·rw [if_neg c89] at H
      have c89b0 : (!(t446 == 0) || (!(t447 == 2) || (!(t448 == 0) || (!(t449 == 8))))) = false := by simpa using c89
      clear c89
      (first | rw [c89b0] | (simp only [i64_w, i32_w]; rw [c89b0]) | skip)
      replace H := Option.bind_eq_some_iff.mp H
      obtain ⟨⟨t450, t451, t452, t453⟩, A920, H⟩ := H
      replace H : (if (!(t450 == 1) || (!(t451 == 0) || (!(t452 == 0) || (!(t453 == 9))))) = true then (imageeditorlaw11_awake.j1 kj2 true 1 0 0 9 0 2 0 8 0 0 3 7 2 1 y421) else ((raster_At.f kj2 2 1 y421 2 0).bind fun bt454 => (if (!(bt454.1 == 0) || (!(bt454.2.1 == 0) || (!(bt454.2.2.1 == 0) || (!(bt454.2.2.2 == 0))))) = true then (imageeditorlaw11_awake.j1 kj2 true 1 0 0 9 0 2 0 8 0 0 3 7 2 1 y421) else ((raster_At.f kj2 2 1 y421 1 0).bind fun bt458 => (imageeditorlaw11_awake.j1 kj2 (!(bt458.1 == 0) || (!(bt458.2.1 == 2) || (!(bt458.2.2.1 == 0) || (!(bt458.2.2.2 == 8))))) 1 0 0 9 0 2 0 8 0 0 3 7 2 1 y421))))) = some r := H
      have A92 := Aside0.mk A920
      clear A920
      by_cases c93 : (!(t450 == 1) || (!(t451 == 0) || (!(t452 == 0) || (!(t453 == 9))))) = true
      ·rw [if_pos c93] at H
       have c93b0 : (!(t450 == 1) || (!(t451 == 0) || (!(t452 == 0) || (!(t453 == 9))))) = true := c93
       clear c93
       have H' := Aside0.mk H
       clear H
       try go_wp2
       replace HO_425002 := zrd HO_425002
       replace HO_439002 := zrd HO_439002
       replace BK418 := zkd BK418
       replace BK419 := zkd BK419
       replace BK420 := zkd BK420
       replace BK424 := zkd BK424
       replace BK438 := zkd BK438
       replace HB := zbd HB
       refine start_ (n := 22) (S := fun w' => w'.cell? ⟨gb424, 0, none⟩ = some (.int .i64 2) ∧ w'.cell? ⟨gb424, 1, none⟩ = some (.int .i64 1) ∧ w'.cell? ⟨gb424, 2, none⟩ = some (.slice Ao15 y421.length co15) ∧ w'.cell? ⟨gb419, 0, none⟩ = some (.int .i64 0) ∧ w'.cell? ⟨gb419, 1, none⟩ = some (.int .i64 2) ∧ w'.cell? ⟨gb419, 2, none⟩ = some (.int .i64 0) ∧ w'.cell? ⟨gb419, 3, none⟩ = some (.int .i64 8) ∧ w'.cell? ⟨gb418, 0, none⟩ = some (.int .i64 1) ∧ w'.cell? ⟨gb418, 1, none⟩ = some (.int .i64 0) ∧ w'.cell? ⟨gb418, 2, none⟩ = some (.int .i64 0) ∧ w'.cell? ⟨gb418, 3, none⟩ = some (.int .i64 9)) (ds := []) (bs 22 0) (by kernel_rfl) rfl rfl ⟨(blk_cell BK424.out 0).trans rfl, (blk_cell BK424.out 1).trans rfl, (blk_cell BK424.out 2).trans rfl, (blk_cell BK419.out 0).trans rfl, (blk_cell BK419.out 1).trans rfl, (blk_cell BK419.out 2).trans rfl, (blk_cell BK419.out 3).trans rfl, (blk_cell BK418.out 0).trans rfl, (blk_cell BK418.out 1).trans rfl, (blk_cell BK418.out 2).trans rfl, (blk_cell BK418.out 3).trans rfl⟩ (fun hHeld => ?_); refine with_tabW imageeditorlaw11_awake.tab7 imageeditorlaw11_awake.bits7 (fun HT_ HW_ => ?_)
       generalize wc.drew = w94 at HO_425002 HO_439002 BK418 BK419 BK420 BK424 BK438 HB hHeld ⊢
       refine take_ (i := 0) (N := some 58) (v := ?_) (a' := ?_) (bs 22 1) rfl rfl (take_ofW HT_.out HW_.out (by kernel_rfl)) (fun _ _ _ h => h) (Or.inl ⟨by rfl, ?_⟩) hHeld ?_ ?_
       rotate_left
       ·rintro w' ⟨s0, s1, s2, s3, s4, s5, s6, s7, s8, s9, s10⟩
        go_simp
        with_reducible rfl
       rotate_left
       ·simp only [Act.put, sA, sB, sC, i64_w, i32_w]
        rfl
       refine take_ (i := 2) (N := some 60) (v := ?_) (a' := ?_) (bs 22 5) rfl rfl (take_ofW HT_.out HW_.out (by kernel_rfl)) (fun _ _ _ h => h) (Or.inl ⟨by rfl, ?_⟩) hHeld ?_ ?_
       rotate_left
       ·rintro w' ⟨s0, s1, s2, s3, s4, s5, s6, s7, s8, s9, s10⟩
        go_simp
        with_reducible rfl
       rotate_left
       ·simp only [Act.put, sA, sB, sC, i64_w, i32_w]
        rfl
       refine one_ (i := 1) (N := some 59) (bs 22 7) rfl rfl (one_of HT_.out (by kernel_rfl)) (by decide) (fun K hK => ?_)
       refine goes_ Try.func23 (by kernel_rfl) rfl #[.agg #[.int .i64 2, .int .i64 1, .slice Ao15 y421.length co15], .int .i64 5, .int .i64 9] (by rfl) rfl rfl (by (try simp only [List.map_toArray, List.map_cons, List.map_nil]); first | done | rfl | (simp only [List.length_drop, List.length_take]; rfl)) ?_
       with_reducible refine (raster_Edge.calls kj2 2 1 _ _ y421 5 9 t446 t447 t448 t449 _ ?side1 ?side2 A88.out).mono ?_
       (case side1 => repeat (first | exact (Kd.R_reads' HO_425002.out).2.2 | (with_reducible refine Kd.C_alloc ?_ _) | (with_reducible refine Kd.C_drewN ?_ _) | (with_reducible refine Kd.C_drew ?_)))
       (case side2 => exact (Kd.R_reads' HO_425002.out).2.1)
       rintro e w95 ⟨rfl, hb⟩
       refine ⟨_, rfl, ?_⟩
       replace HO_425002 := zr HO_425002 hb
       replace HO_439002 := zr HO_439002 hb
       replace BK418 := zk BK418 hb
       replace BK419 := zk BK419 hb
       replace BK420 := zk BK420 hb
       replace BK424 := zk BK424 hb
       replace BK438 := zk BK438 hb
       replace HB := zb HB hb
       (try clear hb)
       (try clear hb2)
       (try clear hk)
       (try clear hi)
       refine hK.out _ _ ⟨(blk_cell BK424.out 0).trans rfl, (blk_cell BK424.out 1).trans rfl, (blk_cell BK424.out 2).trans rfl, (blk_cell BK419.out 0).trans rfl, (blk_cell BK419.out 1).trans rfl, (blk_cell BK419.out 2).trans rfl, (blk_cell BK419.out 3).trans rfl, (blk_cell BK418.out 0).trans rfl, (blk_cell BK418.out 1).trans rfl, (blk_cell BK418.out 2).trans rfl, (blk_cell BK418.out 3).trans rfl⟩ (fun hHeld => ?_)
       clear hK K
       refine norm_ (a' := ?_) ?_ ?_
       rotate_left
       ·show Act.put _ (some 59) _ = _
        simp only [Act.put, sA, sB, sC, i64_w, i32_w]
        rfl
       refine pure_ (i := 3) (N := some 61) (v := ?_) (a' := ?_) (bs 22 15) rfl rfl (any_of HT_.out (by kernel_rfl)) (fun _ _ _ h => h) (Or.inl ⟨by rfl, ?_⟩) ?_ ?_
       rotate_left
       ·intro w'
        go_simp
        with_reducible rfl
       rotate_left
       ·simp only [Act.put, sA, sB, sC, i64_w, i32_w]
        rfl
       refine pure_ (i := 4) (N := some 62) (v := ?_) (a' := ?_) (bs 22 31) rfl rfl (any_of HT_.out (by kernel_rfl)) (fun _ _ _ h => h) (Or.inl ⟨by rfl, ?_⟩) ?_ ?_
       rotate_left
       ·intro w'
        go_simp
        with_reducible rfl
       rotate_left
       ·simp only [Act.put, sA, sB, sC, i64_w, i32_w]
        rfl
       refine take_ (i := 5) (N := some 63) (v := ?_) (a' := ?_) (bs 22 63) rfl rfl (take_ofW HT_.out HW_.out (by kernel_rfl)) (fun _ _ _ h => h) (Or.inl ⟨by rfl, ?_⟩) hHeld ?_ ?_
       rotate_left
       ·rintro w' ⟨s0, s1, s2, s3, s4, s5, s6, s7, s8, s9, s10⟩
        go_simp
        with_reducible rfl
       rotate_left
       ·simp only [Act.put, sA, sB, sC, i64_w, i32_w]
        rfl
       refine take_ (i := 7) (N := some 65) (v := ?_) (a' := ?_) (bs 22 191) rfl rfl (take_ofW HT_.out HW_.out (by kernel_rfl)) (fun _ _ _ h => h) (Or.inl ⟨by rfl, ?_⟩) hHeld ?_ ?_
       rotate_left
       ·rintro w' ⟨s0, s1, s2, s3, s4, s5, s6, s7, s8, s9, s10⟩
        go_simp
        with_reducible rfl
       rotate_left
       ·simp only [Act.put, sA, sB, sC, i64_w, i32_w]
        rfl
       refine one_ (i := 6) (N := some 64) (bs 22 255) rfl rfl (one_of HT_.out (by kernel_rfl)) (by decide) (fun K hK => ?_)
       refine goes_ Try.func23 (by kernel_rfl) rfl #[.agg #[.int .i64 2, .int .i64 1, .slice Ao15 y421.length co15], .int .i64 (-5), .int .i64 0] (by rfl) rfl rfl (by (try simp only [List.map_toArray, List.map_cons, List.map_nil]); first | done | rfl | (simp only [List.length_drop, List.length_take]; rfl)) ?_
       with_reducible refine (raster_Edge.calls kj2 2 1 _ _ y421 (-5) 0 t450 t451 t452 t453 _ ?side1 ?side2 A92.out).mono ?_
       (case side1 => repeat (first | exact (Kd.R_reads' HO_425002.out).2.2 | (with_reducible refine Kd.C_alloc ?_ _) | (with_reducible refine Kd.C_drewN ?_ _) | (with_reducible refine Kd.C_drew ?_)))
       (case side2 => exact (Kd.R_reads' HO_425002.out).2.1)
       rintro e w96 ⟨rfl, hb⟩
       refine ⟨_, rfl, ?_⟩
       replace HO_425002 := zr HO_425002 hb
       replace HO_439002 := zr HO_439002 hb
       replace BK418 := zk BK418 hb
       replace BK419 := zk BK419 hb
       replace BK420 := zk BK420 hb
       replace BK424 := zk BK424 hb
       replace BK438 := zk BK438 hb
       replace HB := zb HB hb
       (try clear hb)
       (try clear hb2)
       (try clear hk)
       (try clear hi)
       refine hK.out _ _ ⟨(blk_cell BK424.out 0).trans rfl, (blk_cell BK424.out 1).trans rfl, (blk_cell BK424.out 2).trans rfl, (blk_cell BK419.out 0).trans rfl, (blk_cell BK419.out 1).trans rfl, (blk_cell BK419.out 2).trans rfl, (blk_cell BK419.out 3).trans rfl, (blk_cell BK418.out 0).trans rfl, (blk_cell BK418.out 1).trans rfl, (blk_cell BK418.out 2).trans rfl, (blk_cell BK418.out 3).trans rfl⟩ (fun hHeld => ?_)
       clear hK K
       refine norm_ (a' := ?_) ?_ ?_
       rotate_left
       ·show Act.put _ (some 64) _ = _
        simp only [Act.put, sA, sB, sC, i64_w, i32_w]
        rfl
       refine pure_ (i := 8) (N := some 66) (v := ?_) (a' := ?_) (bs 22 511) rfl rfl (any_of HT_.out (by kernel_rfl)) (fun _ _ _ h => h) (Or.inl ⟨by rfl, ?_⟩) ?_ ?_
       rotate_left
       ·intro w'
        go_simp
        with_reducible rfl
       rotate_left
       ·simp only [Act.put, sA, sB, sC, i64_w, i32_w]
        rfl
       refine pure_ (i := 9) (N := some 67) (v := ?_) (a' := ?_) (bs 22 1023) rfl rfl (any_of HT_.out (by kernel_rfl)) (fun _ _ _ h => h) (Or.inl ⟨by rfl, ?_⟩) ?_ ?_
       rotate_left
       ·intro w'
        go_simp
        with_reducible rfl
       rotate_left
       ·simp only [Act.put, sA, sB, sC, i64_w, i32_w]
        rfl
       refine pure_ (i := 10) (N := some 68) (v := ?_) (a' := ?_) (bs 22 2047) rfl rfl (any_of HT_.out (by kernel_rfl)) (fun _ _ _ h => h) (Or.inl ⟨by rfl, ?_⟩) ?_ ?_
       rotate_left
       ·intro w'
        go_simp
        with_reducible rfl
       rotate_left
       ·simp only [Act.put, sA, sB, sC, i64_w, i32_w]
        rfl
       refine pure_ (i := 11) (N := some 69) (v := undef) (a' := ?_) (bs 22 4095) rfl rfl (any_of HT_.out (by kernel_rfl)) (fun _ _ _ h => h) (Or.inr ⟨by rfl, rfl⟩) ?_ ?_
       rotate_left
       ·simp only [Act.put, sA, sB, sC, i64_w, i32_w]
        rfl
       refine pure_ (i := 12) (N := some 70) (v := undef) (a' := ?_) (bs 22 8191) rfl rfl (any_of HT_.out (by kernel_rfl)) (fun _ _ _ h => h) (Or.inr ⟨by rfl, rfl⟩) ?_ ?_
       rotate_left
       ·simp only [Act.put, sA, sB, sC, i64_w, i32_w]
        rfl
       refine pure_ (i := 13) (N := some 71) (v := undef) (a' := ?_) (bs 22 16383) rfl rfl (any_of HT_.out (by kernel_rfl)) (fun _ _ _ h => h) (Or.inr ⟨by rfl, rfl⟩) ?_ ?_
       rotate_left
       ·simp only [Act.put, sA, sB, sC, i64_w, i32_w]
        rfl
       refine pure_ (i := 14) (N := some 72) (v := undef) (a' := ?_) (bs 22 32767) rfl rfl (any_of HT_.out (by kernel_rfl)) (fun _ _ _ h => h) (Or.inr ⟨by rfl, rfl⟩) ?_ ?_
       rotate_left
       ·simp only [Act.put, sA, sB, sC, i64_w, i32_w]
        rfl
       refine pure_ (i := 15) (N := some 73) (v := ?_) (a' := ?_) (bs 22 65535) rfl rfl (any_of HT_.out (by kernel_rfl)) (fun _ _ _ h => h) (Or.inl ⟨by rfl, ?_⟩) ?_ ?_
       rotate_left
       ·intro w'
        go_simp
        with_reducible rfl
       rotate_left
       ·simp only [Act.put, sA, sB, sC, i64_w, i32_w]
        rfl
       refine pure_ (i := 16) (N := some 74) (v := ?_) (a' := ?_) (bs 22 131071) rfl rfl (any_of HT_.out (by kernel_rfl)) (fun _ _ _ h => h) (Or.inl ⟨by rfl, ?_⟩) ?_ ?_
       rotate_left
       ·intro w'
        go_simp
        with_reducible rfl
       rotate_left
       ·simp only [Act.put, sA, sB, sC, i64_w, i32_w]
        rfl
       refine pure_ (i := 17) (N := some 75) (v := undef) (a' := ?_) (bs 22 262143) rfl rfl (any_of HT_.out (by kernel_rfl)) (fun _ _ _ h => h) (Or.inr ⟨by rfl, rfl⟩) ?_ ?_
       rotate_left
       ·simp only [Act.put, sA, sB, sC, i64_w, i32_w]
        rfl
       refine pure_ (i := 18) (N := some 76) (v := undef) (a' := ?_) (bs 22 524287) rfl rfl (any_of HT_.out (by kernel_rfl)) (fun _ _ _ h => h) (Or.inr ⟨by rfl, rfl⟩) ?_ ?_
       rotate_left
       ·simp only [Act.put, sA, sB, sC, i64_w, i32_w]
        rfl
       refine pure_ (i := 19) (N := some 77) (v := undef) (a' := ?_) (bs 22 1048575) rfl rfl (any_of HT_.out (by kernel_rfl)) (fun _ _ _ h => h) (Or.inr ⟨by rfl, rfl⟩) ?_ ?_
       rotate_left
       ·simp only [Act.put, sA, sB, sC, i64_w, i32_w]
        rfl
       refine pure_ (i := 20) (N := some 78) (v := undef) (a' := ?_) (bs 22 2097151) rfl rfl (any_of HT_.out (by kernel_rfl)) (fun _ _ _ h => h) (Or.inr ⟨by rfl, rfl⟩) ?_ ?_
       rotate_left
       ·simp only [Act.put, sA, sB, sC, i64_w, i32_w]
        rfl
       refine pure_ (i := 21) (N := some 79) (v := ?_) (a' := ?_) (bs 22 4194303) rfl rfl (any_of HT_.out (by kernel_rfl)) (fun _ _ _ h => h) (Or.inl ⟨by rfl, ?_⟩) ?_ ?_
       rotate_left
       ·intro w'
        go_simp
        with_reducible rfl
       rotate_left
       ·simp only [Act.put, sA, sB, sC, i64_w, i32_w]
        rfl
       refine done_ (done_of HT_.out (by kernel_rfl)) ?_
       try go_wp2
       go_meet
       case rel => exact ⟨_, (true), (by first | rfl | (simp; done) | (simp [*]; done)), H', ⟨by have := HJ2.out; first | omega | exact Nat.le_refl _⟩, ⟨by exact zr0 HO_425002⟩, ⟨by exact zr0 HO_439002⟩, ⟨by exact zk0 BK418⟩, ⟨by exact zk0 BK419⟩, ⟨by exact zk0 BK420⟩, ⟨by exact zk0 BK424⟩, ⟨by exact zk0 BK438⟩, ⟨by exact zb0 HB⟩⟩
      ·rw [if_neg c93] at H
       have c93b0 : (!(t450 == 1) || (!(t451 == 0) || (!(t452 == 0) || (!(t453 == 9))))) = false := by simpa using c93
       clear c93
       replace H := Option.bind_eq_some_iff.mp H
       obtain ⟨⟨t454, t455, t456, t457⟩, A970, H⟩ := H
       replace H : (if (!(t454 == 0) || (!(t455 == 0) || (!(t456 == 0) || (!(t457 == 0))))) = true then (imageeditorlaw11_awake.j1 kj2 true 1 0 0 9 0 2 0 8 0 0 3 7 2 1 y421) else ((raster_At.f kj2 2 1 y421 1 0).bind fun bt458 => (imageeditorlaw11_awake.j1 kj2 (!(bt458.1 == 0) || (!(bt458.2.1 == 2) || (!(bt458.2.2.1 == 0) || (!(bt458.2.2.2 == 8))))) 1 0 0 9 0 2 0 8 0 0 3 7 2 1 y421))) = some r := H
       have A97 := Aside0.mk A970
       clear A970
       by_cases c98 : (!(t454 == 0) || (!(t455 == 0) || (!(t456 == 0) || (!(t457 == 0))))) = true
       ·rw [if_pos c98] at H
        have c98b0 : (!(t454 == 0) || (!(t455 == 0) || (!(t456 == 0) || (!(t457 == 0))))) = true := c98
        clear c98
        have H' := Aside0.mk H
        clear H
        try go_wp2
        replace HO_425002 := zrd HO_425002
        replace HO_439002 := zrd HO_439002
        replace BK418 := zkd BK418
        replace BK419 := zkd BK419
        replace BK420 := zkd BK420
        replace BK424 := zkd BK424
        replace BK438 := zkd BK438
        replace HB := zbd HB
        refine start_ (n := 22) (S := fun w' => w'.cell? ⟨gb424, 0, none⟩ = some (.int .i64 2) ∧ w'.cell? ⟨gb424, 1, none⟩ = some (.int .i64 1) ∧ w'.cell? ⟨gb424, 2, none⟩ = some (.slice Ao15 y421.length co15) ∧ w'.cell? ⟨gb419, 0, none⟩ = some (.int .i64 0) ∧ w'.cell? ⟨gb419, 1, none⟩ = some (.int .i64 2) ∧ w'.cell? ⟨gb419, 2, none⟩ = some (.int .i64 0) ∧ w'.cell? ⟨gb419, 3, none⟩ = some (.int .i64 8) ∧ w'.cell? ⟨gb418, 0, none⟩ = some (.int .i64 1) ∧ w'.cell? ⟨gb418, 1, none⟩ = some (.int .i64 0) ∧ w'.cell? ⟨gb418, 2, none⟩ = some (.int .i64 0) ∧ w'.cell? ⟨gb418, 3, none⟩ = some (.int .i64 9)) (ds := []) (bs 22 0) (by kernel_rfl) rfl rfl ⟨(blk_cell BK424.out 0).trans rfl, (blk_cell BK424.out 1).trans rfl, (blk_cell BK424.out 2).trans rfl, (blk_cell BK419.out 0).trans rfl, (blk_cell BK419.out 1).trans rfl, (blk_cell BK419.out 2).trans rfl, (blk_cell BK419.out 3).trans rfl, (blk_cell BK418.out 0).trans rfl, (blk_cell BK418.out 1).trans rfl, (blk_cell BK418.out 2).trans rfl, (blk_cell BK418.out 3).trans rfl⟩ (fun hHeld => ?_); refine with_tabW imageeditorlaw11_awake.tab7 imageeditorlaw11_awake.bits7 (fun HT_ HW_ => ?_)
        generalize wc.drew = w99 at HO_425002 HO_439002 BK418 BK419 BK420 BK424 BK438 HB hHeld ⊢
        refine take_ (i := 0) (N := some 58) (v := ?_) (a' := ?_) (bs 22 1) rfl rfl (take_ofW HT_.out HW_.out (by kernel_rfl)) (fun _ _ _ h => h) (Or.inl ⟨by rfl, ?_⟩) hHeld ?_ ?_
        rotate_left
        ·rintro w' ⟨s0, s1, s2, s3, s4, s5, s6, s7, s8, s9, s10⟩
         go_simp
         with_reducible rfl
        rotate_left
        ·simp only [Act.put, sA, sB, sC, i64_w, i32_w]
         rfl
        refine take_ (i := 2) (N := some 60) (v := ?_) (a' := ?_) (bs 22 5) rfl rfl (take_ofW HT_.out HW_.out (by kernel_rfl)) (fun _ _ _ h => h) (Or.inl ⟨by rfl, ?_⟩) hHeld ?_ ?_
        rotate_left
        ·rintro w' ⟨s0, s1, s2, s3, s4, s5, s6, s7, s8, s9, s10⟩
         go_simp
         with_reducible rfl
        rotate_left
        ·simp only [Act.put, sA, sB, sC, i64_w, i32_w]
         rfl
        refine one_ (i := 1) (N := some 59) (bs 22 7) rfl rfl (one_of HT_.out (by kernel_rfl)) (by decide) (fun K hK => ?_)
        refine goes_ Try.func23 (by kernel_rfl) rfl #[.agg #[.int .i64 2, .int .i64 1, .slice Ao15 y421.length co15], .int .i64 5, .int .i64 9] (by rfl) rfl rfl (by (try simp only [List.map_toArray, List.map_cons, List.map_nil]); first | done | rfl | (simp only [List.length_drop, List.length_take]; rfl)) ?_
        with_reducible refine (raster_Edge.calls kj2 2 1 _ _ y421 5 9 t446 t447 t448 t449 _ ?side1 ?side2 A88.out).mono ?_
        (case side1 => repeat (first | exact (Kd.R_reads' HO_425002.out).2.2 | (with_reducible refine Kd.C_alloc ?_ _) | (with_reducible refine Kd.C_drewN ?_ _) | (with_reducible refine Kd.C_drew ?_)))
        (case side2 => exact (Kd.R_reads' HO_425002.out).2.1)
        rintro e w100 ⟨rfl, hb⟩
        refine ⟨_, rfl, ?_⟩
        replace HO_425002 := zr HO_425002 hb
        replace HO_439002 := zr HO_439002 hb
        replace BK418 := zk BK418 hb
        replace BK419 := zk BK419 hb
        replace BK420 := zk BK420 hb
        replace BK424 := zk BK424 hb
        replace BK438 := zk BK438 hb
        replace HB := zb HB hb
        (try clear hb)
        (try clear hb2)
        (try clear hk)
        (try clear hi)
        refine hK.out _ _ ⟨(blk_cell BK424.out 0).trans rfl, (blk_cell BK424.out 1).trans rfl, (blk_cell BK424.out 2).trans rfl, (blk_cell BK419.out 0).trans rfl, (blk_cell BK419.out 1).trans rfl, (blk_cell BK419.out 2).trans rfl, (blk_cell BK419.out 3).trans rfl, (blk_cell BK418.out 0).trans rfl, (blk_cell BK418.out 1).trans rfl, (blk_cell BK418.out 2).trans rfl, (blk_cell BK418.out 3).trans rfl⟩ (fun hHeld => ?_)
        clear hK K
        refine norm_ (a' := ?_) ?_ ?_
        rotate_left
        ·show Act.put _ (some 59) _ = _
         simp only [Act.put, sA, sB, sC, i64_w, i32_w]
         rfl
        refine pure_ (i := 3) (N := some 61) (v := ?_) (a' := ?_) (bs 22 15) rfl rfl (any_of HT_.out (by kernel_rfl)) (fun _ _ _ h => h) (Or.inl ⟨by rfl, ?_⟩) ?_ ?_
        rotate_left
        ·intro w'
         go_simp
         with_reducible rfl
        rotate_left
        ·simp only [Act.put, sA, sB, sC, i64_w, i32_w]
         rfl
        refine pure_ (i := 4) (N := some 62) (v := ?_) (a' := ?_) (bs 22 31) rfl rfl (any_of HT_.out (by kernel_rfl)) (fun _ _ _ h => h) (Or.inl ⟨by rfl, ?_⟩) ?_ ?_
        rotate_left
        ·intro w'
         go_simp
         with_reducible rfl
        rotate_left
        ·simp only [Act.put, sA, sB, sC, i64_w, i32_w]
         rfl
        refine take_ (i := 5) (N := some 63) (v := ?_) (a' := ?_) (bs 22 63) rfl rfl (take_ofW HT_.out HW_.out (by kernel_rfl)) (fun _ _ _ h => h) (Or.inl ⟨by rfl, ?_⟩) hHeld ?_ ?_
        rotate_left
        ·rintro w' ⟨s0, s1, s2, s3, s4, s5, s6, s7, s8, s9, s10⟩
         go_simp
         with_reducible rfl
        rotate_left
        ·simp only [Act.put, sA, sB, sC, i64_w, i32_w]
         rfl
        refine take_ (i := 7) (N := some 65) (v := ?_) (a' := ?_) (bs 22 191) rfl rfl (take_ofW HT_.out HW_.out (by kernel_rfl)) (fun _ _ _ h => h) (Or.inl ⟨by rfl, ?_⟩) hHeld ?_ ?_
        rotate_left
        ·rintro w' ⟨s0, s1, s2, s3, s4, s5, s6, s7, s8, s9, s10⟩
         go_simp
         with_reducible rfl
        rotate_left
        ·simp only [Act.put, sA, sB, sC, i64_w, i32_w]
         rfl
        refine one_ (i := 6) (N := some 64) (bs 22 255) rfl rfl (one_of HT_.out (by kernel_rfl)) (by decide) (fun K hK => ?_)
        refine goes_ Try.func23 (by kernel_rfl) rfl #[.agg #[.int .i64 2, .int .i64 1, .slice Ao15 y421.length co15], .int .i64 (-5), .int .i64 0] (by rfl) rfl rfl (by (try simp only [List.map_toArray, List.map_cons, List.map_nil]); first | done | rfl | (simp only [List.length_drop, List.length_take]; rfl)) ?_
        with_reducible refine (raster_Edge.calls kj2 2 1 _ _ y421 (-5) 0 t450 t451 t452 t453 _ ?side1 ?side2 A92.out).mono ?_
        (case side1 => repeat (first | exact (Kd.R_reads' HO_425002.out).2.2 | (with_reducible refine Kd.C_alloc ?_ _) | (with_reducible refine Kd.C_drewN ?_ _) | (with_reducible refine Kd.C_drew ?_)))
        (case side2 => exact (Kd.R_reads' HO_425002.out).2.1)
        rintro e w101 ⟨rfl, hb⟩
        refine ⟨_, rfl, ?_⟩
        replace HO_425002 := zr HO_425002 hb
        replace HO_439002 := zr HO_439002 hb
        replace BK418 := zk BK418 hb
        replace BK419 := zk BK419 hb
        replace BK420 := zk BK420 hb
        replace BK424 := zk BK424 hb
        replace BK438 := zk BK438 hb
        replace HB := zb HB hb
        (try clear hb)
        (try clear hb2)
        (try clear hk)
        (try clear hi)
        refine hK.out _ _ ⟨(blk_cell BK424.out 0).trans rfl, (blk_cell BK424.out 1).trans rfl, (blk_cell BK424.out 2).trans rfl, (blk_cell BK419.out 0).trans rfl, (blk_cell BK419.out 1).trans rfl, (blk_cell BK419.out 2).trans rfl, (blk_cell BK419.out 3).trans rfl, (blk_cell BK418.out 0).trans rfl, (blk_cell BK418.out 1).trans rfl, (blk_cell BK418.out 2).trans rfl, (blk_cell BK418.out 3).trans rfl⟩ (fun hHeld => ?_)
        clear hK K
        refine norm_ (a' := ?_) ?_ ?_
        rotate_left
        ·show Act.put _ (some 64) _ = _
         simp only [Act.put, sA, sB, sC, i64_w, i32_w]
         rfl
        refine pure_ (i := 8) (N := some 66) (v := ?_) (a' := ?_) (bs 22 511) rfl rfl (any_of HT_.out (by kernel_rfl)) (fun _ _ _ h => h) (Or.inl ⟨by rfl, ?_⟩) ?_ ?_
        rotate_left
        ·intro w'
         go_simp
         with_reducible rfl
        rotate_left
        ·simp only [Act.put, sA, sB, sC, i64_w, i32_w]
         rfl
        refine pure_ (i := 9) (N := some 67) (v := ?_) (a' := ?_) (bs 22 1023) rfl rfl (any_of HT_.out (by kernel_rfl)) (fun _ _ _ h => h) (Or.inl ⟨by rfl, ?_⟩) ?_ ?_
        rotate_left
        ·intro w'
         go_simp
         with_reducible rfl
        rotate_left
        ·simp only [Act.put, sA, sB, sC, i64_w, i32_w]
         rfl
        refine pure_ (i := 10) (N := some 68) (v := ?_) (a' := ?_) (bs 22 2047) rfl rfl (any_of HT_.out (by kernel_rfl)) (fun _ _ _ h => h) (Or.inl ⟨by rfl, ?_⟩) ?_ ?_
        rotate_left
        ·intro w'
         go_simp
         with_reducible rfl
        rotate_left
        ·simp only [Act.put, sA, sB, sC, i64_w, i32_w]
         rfl
        refine pure_ (i := 13) (N := some 71) (v := ?_) (a' := ?_) (bs 22 10239) rfl rfl (any_of HT_.out (by kernel_rfl)) (fun _ _ _ h => h) (Or.inl ⟨by rfl, ?_⟩) ?_ ?_
        rotate_left
        ·intro w'
         go_simp
         with_reducible rfl
        rotate_left
        ·simp only [Act.put, sA, sB, sC, i64_w, i32_w]
         rfl
        refine take_ (i := 11) (N := some 69) (v := ?_) (a' := ?_) (bs 22 12287) rfl rfl (take_ofW HT_.out HW_.out (by kernel_rfl)) (fun _ _ _ h => h) (Or.inl ⟨by rfl, ?_⟩) hHeld ?_ ?_
        rotate_left
        ·rintro w' ⟨s0, s1, s2, s3, s4, s5, s6, s7, s8, s9, s10⟩
         go_simp
         with_reducible rfl
        rotate_left
        ·simp only [Act.put, sA, sB, sC, i64_w, i32_w]
         rfl
        refine one_ (i := 12) (N := some 70) (bs 22 16383) rfl rfl (one_of HT_.out (by kernel_rfl)) (by decide) (fun K hK => ?_)
        refine goes_ Try.func21 (by kernel_rfl) rfl #[.agg #[.int .i64 2, .int .i64 1, .slice Ao15 y421.length co15], .int .i64 2, .int .i64 0] (by rfl) rfl rfl (by (try simp only [List.map_toArray, List.map_cons, List.map_nil]); first | done | rfl | (simp only [List.length_drop, List.length_take]; rfl)) ?_
        with_reducible refine (raster_At.calls kj2 2 1 _ _ y421 2 0 t454 t455 t456 t457 _ ?side1 ?side2 A97.out).mono ?_
        (case side1 => repeat (first | exact (Kd.R_reads' HO_425002.out).2.2 | (with_reducible refine Kd.C_alloc ?_ _) | (with_reducible refine Kd.C_drewN ?_ _) | (with_reducible refine Kd.C_drew ?_)))
        (case side2 => exact (Kd.R_reads' HO_425002.out).2.1)
        rintro e w102 ⟨rfl, hb⟩
        refine ⟨_, rfl, ?_⟩
        replace HO_425002 := zr HO_425002 hb
        replace HO_439002 := zr HO_439002 hb
        replace BK418 := zk BK418 hb
        replace BK419 := zk BK419 hb
        replace BK420 := zk BK420 hb
        replace BK424 := zk BK424 hb
        replace BK438 := zk BK438 hb
        replace HB := zb HB hb
        (try clear hb)
        (try clear hb2)
        (try clear hk)
        (try clear hi)
        refine hK.out _ _ ⟨(blk_cell BK424.out 0).trans rfl, (blk_cell BK424.out 1).trans rfl, (blk_cell BK424.out 2).trans rfl, (blk_cell BK419.out 0).trans rfl, (blk_cell BK419.out 1).trans rfl, (blk_cell BK419.out 2).trans rfl, (blk_cell BK419.out 3).trans rfl, (blk_cell BK418.out 0).trans rfl, (blk_cell BK418.out 1).trans rfl, (blk_cell BK418.out 2).trans rfl, (blk_cell BK418.out 3).trans rfl⟩ (fun hHeld => ?_)
        clear hK K
        refine norm_ (a' := ?_) ?_ ?_
        rotate_left
        ·show Act.put _ (some 70) _ = _
         simp only [Act.put, sA, sB, sC, i64_w, i32_w]
         rfl
        refine pure_ (i := 14) (N := some 72) (v := ?_) (a' := ?_) (bs 22 32767) rfl rfl (any_of HT_.out (by kernel_rfl)) (fun _ _ _ h => h) (Or.inl ⟨by rfl, ?_⟩) ?_ ?_
        rotate_left
        ·intro w'
         go_simp
         with_reducible rfl
        rotate_left
        ·simp only [Act.put, sA, sB, sC, i64_w, i32_w]
         rfl
        refine pure_ (i := 15) (N := some 73) (v := ?_) (a' := ?_) (bs 22 65535) rfl rfl (any_of HT_.out (by kernel_rfl)) (fun _ _ _ h => h) (Or.inl ⟨by rfl, ?_⟩) ?_ ?_
        rotate_left
        ·intro w'
         go_simp
         with_reducible rfl
        rotate_left
        ·simp only [Act.put, sA, sB, sC, i64_w, i32_w]
         rfl
        refine pure_ (i := 16) (N := some 74) (v := ?_) (a' := ?_) (bs 22 131071) rfl rfl (any_of HT_.out (by kernel_rfl)) (fun _ _ _ h => h) (Or.inl ⟨by rfl, ?_⟩) ?_ ?_
        rotate_left
        ·intro w'
         go_simp
         with_reducible rfl
        rotate_left
        ·simp only [Act.put, sA, sB, sC, i64_w, i32_w]
         rfl
        refine pure_ (i := 17) (N := some 75) (v := undef) (a' := ?_) (bs 22 262143) rfl rfl (any_of HT_.out (by kernel_rfl)) (fun _ _ _ h => h) (Or.inr ⟨by rfl, rfl⟩) ?_ ?_
        rotate_left
        ·simp only [Act.put, sA, sB, sC, i64_w, i32_w]
         rfl
        refine pure_ (i := 18) (N := some 76) (v := undef) (a' := ?_) (bs 22 524287) rfl rfl (any_of HT_.out (by kernel_rfl)) (fun _ _ _ h => h) (Or.inr ⟨by rfl, rfl⟩) ?_ ?_
        rotate_left
        ·simp only [Act.put, sA, sB, sC, i64_w, i32_w]
         rfl
        refine pure_ (i := 19) (N := some 77) (v := undef) (a' := ?_) (bs 22 1048575) rfl rfl (any_of HT_.out (by kernel_rfl)) (fun _ _ _ h => h) (Or.inr ⟨by rfl, rfl⟩) ?_ ?_
        rotate_left
        ·simp only [Act.put, sA, sB, sC, i64_w, i32_w]
         rfl
        refine pure_ (i := 20) (N := some 78) (v := undef) (a' := ?_) (bs 22 2097151) rfl rfl (any_of HT_.out (by kernel_rfl)) (fun _ _ _ h => h) (Or.inr ⟨by rfl, rfl⟩) ?_ ?_
        rotate_left
        ·simp only [Act.put, sA, sB, sC, i64_w, i32_w]
         rfl
        refine pure_ (i := 21) (N := some 79) (v := ?_) (a' := ?_) (bs 22 4194303) rfl rfl (any_of HT_.out (by kernel_rfl)) (fun _ _ _ h => h) (Or.inl ⟨by rfl, ?_⟩) ?_ ?_
        rotate_left
        ·intro w'
         go_simp
         with_reducible rfl
        rotate_left
        ·simp only [Act.put, sA, sB, sC, i64_w, i32_w]
         rfl
        refine done_ (done_of HT_.out (by kernel_rfl)) ?_
        try go_wp2
        go_meet
        case rel => exact ⟨_, (true), (by first | rfl | (simp; done) | (simp [*]; done)), H', ⟨by have := HJ2.out; first | omega | exact Nat.le_refl _⟩, ⟨by exact zr0 HO_425002⟩, ⟨by exact zr0 HO_439002⟩, ⟨by exact zk0 BK418⟩, ⟨by exact zk0 BK419⟩, ⟨by exact zk0 BK420⟩, ⟨by exact zk0 BK424⟩, ⟨by exact zk0 BK438⟩, ⟨by exact zb0 HB⟩⟩
       ·rw [if_neg c98] at H
        have c98b0 : (!(t454 == 0) || (!(t455 == 0) || (!(t456 == 0) || (!(t457 == 0))))) = false := by simpa using c98
        clear c98
        replace H := Option.bind_eq_some_iff.mp H
        obtain ⟨⟨t458, t459, t460, t461⟩, A1030, H⟩ := H
        replace H : (imageeditorlaw11_awake.j1 kj2 (!(t458 == 0) || (!(t459 == 2) || (!(t460 == 0) || (!(t461 == 8))))) 1 0 0 9 0 2 0 8 0 0 3 7 2 1 y421) = some r := H
        have A103 := Aside0.mk A1030
        clear A1030
        have H' := Aside0.mk H
        clear H
        try go_wp2
        replace HO_425002 := zrd HO_425002
        replace HO_439002 := zrd HO_439002
        replace BK418 := zkd BK418
        replace BK419 := zkd BK419
        replace BK420 := zkd BK420
        replace BK424 := zkd BK424
        replace BK438 := zkd BK438
        replace HB := zbd HB
        refine start_ (n := 22) (S := fun w' => w'.cell? ⟨gb424, 0, none⟩ = some (.int .i64 2) ∧ w'.cell? ⟨gb424, 1, none⟩ = some (.int .i64 1) ∧ w'.cell? ⟨gb424, 2, none⟩ = some (.slice Ao15 y421.length co15) ∧ w'.cell? ⟨gb419, 0, none⟩ = some (.int .i64 0) ∧ w'.cell? ⟨gb419, 1, none⟩ = some (.int .i64 2) ∧ w'.cell? ⟨gb419, 2, none⟩ = some (.int .i64 0) ∧ w'.cell? ⟨gb419, 3, none⟩ = some (.int .i64 8) ∧ w'.cell? ⟨gb418, 0, none⟩ = some (.int .i64 1) ∧ w'.cell? ⟨gb418, 1, none⟩ = some (.int .i64 0) ∧ w'.cell? ⟨gb418, 2, none⟩ = some (.int .i64 0) ∧ w'.cell? ⟨gb418, 3, none⟩ = some (.int .i64 9)) (ds := []) (bs 22 0) (by kernel_rfl) rfl rfl ⟨(blk_cell BK424.out 0).trans rfl, (blk_cell BK424.out 1).trans rfl, (blk_cell BK424.out 2).trans rfl, (blk_cell BK419.out 0).trans rfl, (blk_cell BK419.out 1).trans rfl, (blk_cell BK419.out 2).trans rfl, (blk_cell BK419.out 3).trans rfl, (blk_cell BK418.out 0).trans rfl, (blk_cell BK418.out 1).trans rfl, (blk_cell BK418.out 2).trans rfl, (blk_cell BK418.out 3).trans rfl⟩ (fun hHeld => ?_); refine with_tabW imageeditorlaw11_awake.tab7 imageeditorlaw11_awake.bits7 (fun HT_ HW_ => ?_)
        generalize wc.drew = w104 at HO_425002 HO_439002 BK418 BK419 BK420 BK424 BK438 HB hHeld ⊢
        refine take_ (i := 0) (N := some 58) (v := ?_) (a' := ?_) (bs 22 1) rfl rfl (take_ofW HT_.out HW_.out (by kernel_rfl)) (fun _ _ _ h => h) (Or.inl ⟨by rfl, ?_⟩) hHeld ?_ ?_
        rotate_left
        ·rintro w' ⟨s0, s1, s2, s3, s4, s5, s6, s7, s8, s9, s10⟩
         go_simp
         with_reducible rfl
        rotate_left
        ·simp only [Act.put, sA, sB, sC, i64_w, i32_w]
         rfl
        refine take_ (i := 2) (N := some 60) (v := ?_) (a' := ?_) (bs 22 5) rfl rfl (take_ofW HT_.out HW_.out (by kernel_rfl)) (fun _ _ _ h => h) (Or.inl ⟨by rfl, ?_⟩) hHeld ?_ ?_
        rotate_left
        ·rintro w' ⟨s0, s1, s2, s3, s4, s5, s6, s7, s8, s9, s10⟩
         go_simp
         with_reducible rfl
        rotate_left
        ·simp only [Act.put, sA, sB, sC, i64_w, i32_w]
         rfl
        refine one_ (i := 1) (N := some 59) (bs 22 7) rfl rfl (one_of HT_.out (by kernel_rfl)) (by decide) (fun K hK => ?_)
        refine goes_ Try.func23 (by kernel_rfl) rfl #[.agg #[.int .i64 2, .int .i64 1, .slice Ao15 y421.length co15], .int .i64 5, .int .i64 9] (by rfl) rfl rfl (by (try simp only [List.map_toArray, List.map_cons, List.map_nil]); first | done | rfl | (simp only [List.length_drop, List.length_take]; rfl)) ?_
        with_reducible refine (raster_Edge.calls kj2 2 1 _ _ y421 5 9 t446 t447 t448 t449 _ ?side1 ?side2 A88.out).mono ?_
        (case side1 => repeat (first | exact (Kd.R_reads' HO_425002.out).2.2 | (with_reducible refine Kd.C_alloc ?_ _) | (with_reducible refine Kd.C_drewN ?_ _) | (with_reducible refine Kd.C_drew ?_)))
        (case side2 => exact (Kd.R_reads' HO_425002.out).2.1)
        rintro e w105 ⟨rfl, hb⟩
        refine ⟨_, rfl, ?_⟩
        replace HO_425002 := zr HO_425002 hb
        replace HO_439002 := zr HO_439002 hb
        replace BK418 := zk BK418 hb
        replace BK419 := zk BK419 hb
        replace BK420 := zk BK420 hb
        replace BK424 := zk BK424 hb
        replace BK438 := zk BK438 hb
        replace HB := zb HB hb
        (try clear hb)
        (try clear hb2)
        (try clear hk)
        (try clear hi)
        refine hK.out _ _ ⟨(blk_cell BK424.out 0).trans rfl, (blk_cell BK424.out 1).trans rfl, (blk_cell BK424.out 2).trans rfl, (blk_cell BK419.out 0).trans rfl, (blk_cell BK419.out 1).trans rfl, (blk_cell BK419.out 2).trans rfl, (blk_cell BK419.out 3).trans rfl, (blk_cell BK418.out 0).trans rfl, (blk_cell BK418.out 1).trans rfl, (blk_cell BK418.out 2).trans rfl, (blk_cell BK418.out 3).trans rfl⟩ (fun hHeld => ?_)
        clear hK K
        refine norm_ (a' := ?_) ?_ ?_
        rotate_left
        ·show Act.put _ (some 59) _ = _
         simp only [Act.put, sA, sB, sC, i64_w, i32_w]
         rfl
        refine pure_ (i := 3) (N := some 61) (v := ?_) (a' := ?_) (bs 22 15) rfl rfl (any_of HT_.out (by kernel_rfl)) (fun _ _ _ h => h) (Or.inl ⟨by rfl, ?_⟩) ?_ ?_
        rotate_left
        ·intro w'
         go_simp
         with_reducible rfl
        rotate_left
        ·simp only [Act.put, sA, sB, sC, i64_w, i32_w]
         rfl
        refine pure_ (i := 4) (N := some 62) (v := ?_) (a' := ?_) (bs 22 31) rfl rfl (any_of HT_.out (by kernel_rfl)) (fun _ _ _ h => h) (Or.inl ⟨by rfl, ?_⟩) ?_ ?_
        rotate_left
        ·intro w'
         go_simp
         with_reducible rfl
        rotate_left
        ·simp only [Act.put, sA, sB, sC, i64_w, i32_w]
         rfl
        refine take_ (i := 5) (N := some 63) (v := ?_) (a' := ?_) (bs 22 63) rfl rfl (take_ofW HT_.out HW_.out (by kernel_rfl)) (fun _ _ _ h => h) (Or.inl ⟨by rfl, ?_⟩) hHeld ?_ ?_
        rotate_left
        ·rintro w' ⟨s0, s1, s2, s3, s4, s5, s6, s7, s8, s9, s10⟩
         go_simp
         with_reducible rfl
        rotate_left
        ·simp only [Act.put, sA, sB, sC, i64_w, i32_w]
         rfl
        refine take_ (i := 7) (N := some 65) (v := ?_) (a' := ?_) (bs 22 191) rfl rfl (take_ofW HT_.out HW_.out (by kernel_rfl)) (fun _ _ _ h => h) (Or.inl ⟨by rfl, ?_⟩) hHeld ?_ ?_
        rotate_left
        ·rintro w' ⟨s0, s1, s2, s3, s4, s5, s6, s7, s8, s9, s10⟩
         go_simp
         with_reducible rfl
        rotate_left
        ·simp only [Act.put, sA, sB, sC, i64_w, i32_w]
         rfl
        refine one_ (i := 6) (N := some 64) (bs 22 255) rfl rfl (one_of HT_.out (by kernel_rfl)) (by decide) (fun K hK => ?_)
        refine goes_ Try.func23 (by kernel_rfl) rfl #[.agg #[.int .i64 2, .int .i64 1, .slice Ao15 y421.length co15], .int .i64 (-5), .int .i64 0] (by rfl) rfl rfl (by (try simp only [List.map_toArray, List.map_cons, List.map_nil]); first | done | rfl | (simp only [List.length_drop, List.length_take]; rfl)) ?_
        with_reducible refine (raster_Edge.calls kj2 2 1 _ _ y421 (-5) 0 t450 t451 t452 t453 _ ?side1 ?side2 A92.out).mono ?_
        (case side1 => repeat (first | exact (Kd.R_reads' HO_425002.out).2.2 | (with_reducible refine Kd.C_alloc ?_ _) | (with_reducible refine Kd.C_drewN ?_ _) | (with_reducible refine Kd.C_drew ?_)))
        (case side2 => exact (Kd.R_reads' HO_425002.out).2.1)
        rintro e w106 ⟨rfl, hb⟩
        refine ⟨_, rfl, ?_⟩
        replace HO_425002 := zr HO_425002 hb
        replace HO_439002 := zr HO_439002 hb
        replace BK418 := zk BK418 hb
        replace BK419 := zk BK419 hb
        replace BK420 := zk BK420 hb
        replace BK424 := zk BK424 hb
        replace BK438 := zk BK438 hb
        replace HB := zb HB hb
        (try clear hb)
        (try clear hb2)
        (try clear hk)
        (try clear hi)
        refine hK.out _ _ ⟨(blk_cell BK424.out 0).trans rfl, (blk_cell BK424.out 1).trans rfl, (blk_cell BK424.out 2).trans rfl, (blk_cell BK419.out 0).trans rfl, (blk_cell BK419.out 1).trans rfl, (blk_cell BK419.out 2).trans rfl, (blk_cell BK419.out 3).trans rfl, (blk_cell BK418.out 0).trans rfl, (blk_cell BK418.out 1).trans rfl, (blk_cell BK418.out 2).trans rfl, (blk_cell BK418.out 3).trans rfl⟩ (fun hHeld => ?_)
        clear hK K
        refine norm_ (a' := ?_) ?_ ?_
        rotate_left
        ·show Act.put _ (some 64) _ = _
         simp only [Act.put, sA, sB, sC, i64_w, i32_w]
         rfl
        refine pure_ (i := 8) (N := some 66) (v := ?_) (a' := ?_) (bs 22 511) rfl rfl (any_of HT_.out (by kernel_rfl)) (fun _ _ _ h => h) (Or.inl ⟨by rfl, ?_⟩) ?_ ?_
        rotate_left
        ·intro w'
         go_simp
         with_reducible rfl
        rotate_left
        ·simp only [Act.put, sA, sB, sC, i64_w, i32_w]
         rfl
        refine pure_ (i := 9) (N := some 67) (v := ?_) (a' := ?_) (bs 22 1023) rfl rfl (any_of HT_.out (by kernel_rfl)) (fun _ _ _ h => h) (Or.inl ⟨by rfl, ?_⟩) ?_ ?_
        rotate_left
        ·intro w'
         go_simp
         with_reducible rfl
        rotate_left
        ·simp only [Act.put, sA, sB, sC, i64_w, i32_w]
         rfl
        refine pure_ (i := 10) (N := some 68) (v := ?_) (a' := ?_) (bs 22 2047) rfl rfl (any_of HT_.out (by kernel_rfl)) (fun _ _ _ h => h) (Or.inl ⟨by rfl, ?_⟩) ?_ ?_
        rotate_left
        ·intro w'
         go_simp
         with_reducible rfl
        rotate_left
        ·simp only [Act.put, sA, sB, sC, i64_w, i32_w]
         rfl
        refine pure_ (i := 13) (N := some 71) (v := ?_) (a' := ?_) (bs 22 10239) rfl rfl (any_of HT_.out (by kernel_rfl)) (fun _ _ _ h => h) (Or.inl ⟨by rfl, ?_⟩) ?_ ?_
        rotate_left
        ·intro w'
         go_simp
         with_reducible rfl
        rotate_left
        ·simp only [Act.put, sA, sB, sC, i64_w, i32_w]
         rfl
        refine take_ (i := 11) (N := some 69) (v := ?_) (a' := ?_) (bs 22 12287) rfl rfl (take_ofW HT_.out HW_.out (by kernel_rfl)) (fun _ _ _ h => h) (Or.inl ⟨by rfl, ?_⟩) hHeld ?_ ?_
        rotate_left
        ·rintro w' ⟨s0, s1, s2, s3, s4, s5, s6, s7, s8, s9, s10⟩
         go_simp
         with_reducible rfl
        rotate_left
        ·simp only [Act.put, sA, sB, sC, i64_w, i32_w]
         rfl
        refine one_ (i := 12) (N := some 70) (bs 22 16383) rfl rfl (one_of HT_.out (by kernel_rfl)) (by decide) (fun K hK => ?_)
        refine goes_ Try.func21 (by kernel_rfl) rfl #[.agg #[.int .i64 2, .int .i64 1, .slice Ao15 y421.length co15], .int .i64 2, .int .i64 0] (by rfl) rfl rfl (by (try simp only [List.map_toArray, List.map_cons, List.map_nil]); first | done | rfl | (simp only [List.length_drop, List.length_take]; rfl)) ?_
        with_reducible refine (raster_At.calls kj2 2 1 _ _ y421 2 0 t454 t455 t456 t457 _ ?side1 ?side2 A97.out).mono ?_
        (case side1 => repeat (first | exact (Kd.R_reads' HO_425002.out).2.2 | (with_reducible refine Kd.C_alloc ?_ _) | (with_reducible refine Kd.C_drewN ?_ _) | (with_reducible refine Kd.C_drew ?_)))
        (case side2 => exact (Kd.R_reads' HO_425002.out).2.1)
        rintro e w107 ⟨rfl, hb⟩
        refine ⟨_, rfl, ?_⟩
        replace HO_425002 := zr HO_425002 hb
        replace HO_439002 := zr HO_439002 hb
        replace BK418 := zk BK418 hb
        replace BK419 := zk BK419 hb
        replace BK420 := zk BK420 hb
        replace BK424 := zk BK424 hb
        replace BK438 := zk BK438 hb
        replace HB := zb HB hb
        (try clear hb)
        (try clear hb2)
        (try clear hk)
        (try clear hi)
        refine hK.out _ _ ⟨(blk_cell BK424.out 0).trans rfl, (blk_cell BK424.out 1).trans rfl, (blk_cell BK424.out 2).trans rfl, (blk_cell BK419.out 0).trans rfl, (blk_cell BK419.out 1).trans rfl, (blk_cell BK419.out 2).trans rfl, (blk_cell BK419.out 3).trans rfl, (blk_cell BK418.out 0).trans rfl, (blk_cell BK418.out 1).trans rfl, (blk_cell BK418.out 2).trans rfl, (blk_cell BK418.out 3).trans rfl⟩ (fun hHeld => ?_)
        clear hK K
        refine norm_ (a' := ?_) ?_ ?_
        rotate_left
        ·show Act.put _ (some 70) _ = _
         simp only [Act.put, sA, sB, sC, i64_w, i32_w]
         rfl
        refine pure_ (i := 14) (N := some 72) (v := ?_) (a' := ?_) (bs 22 32767) rfl rfl (any_of HT_.out (by kernel_rfl)) (fun _ _ _ h => h) (Or.inl ⟨by rfl, ?_⟩) ?_ ?_
        rotate_left
        ·intro w'
         go_simp
         with_reducible rfl
        rotate_left
        ·simp only [Act.put, sA, sB, sC, i64_w, i32_w]
         rfl
        refine pure_ (i := 15) (N := some 73) (v := ?_) (a' := ?_) (bs 22 65535) rfl rfl (any_of HT_.out (by kernel_rfl)) (fun _ _ _ h => h) (Or.inl ⟨by rfl, ?_⟩) ?_ ?_
        rotate_left
        ·intro w'
         go_simp
         with_reducible rfl
        rotate_left
        ·simp only [Act.put, sA, sB, sC, i64_w, i32_w]
         rfl
        refine pure_ (i := 16) (N := some 74) (v := ?_) (a' := ?_) (bs 22 131071) rfl rfl (any_of HT_.out (by kernel_rfl)) (fun _ _ _ h => h) (Or.inl ⟨by rfl, ?_⟩) ?_ ?_
        rotate_left
        ·intro w'
         go_simp
         with_reducible rfl
        rotate_left
        ·simp only [Act.put, sA, sB, sC, i64_w, i32_w]
         rfl
        refine take_ (i := 17) (N := some 75) (v := ?_) (a' := ?_) (bs 22 262143) rfl rfl (take_ofW HT_.out HW_.out (by kernel_rfl)) (fun _ _ _ h => h) (Or.inl ⟨by rfl, ?_⟩) hHeld ?_ ?_
        rotate_left
        ·rintro w' ⟨s0, s1, s2, s3, s4, s5, s6, s7, s8, s9, s10⟩
         go_simp
         with_reducible rfl
        rotate_left
        ·simp only [Act.put, sA, sB, sC, i64_w, i32_w]
         rfl
        refine take_ (i := 19) (N := some 77) (v := ?_) (a' := ?_) (bs 22 786431) rfl rfl (take_ofW HT_.out HW_.out (by kernel_rfl)) (fun _ _ _ h => h) (Or.inl ⟨by rfl, ?_⟩) hHeld ?_ ?_
        rotate_left
        ·rintro w' ⟨s0, s1, s2, s3, s4, s5, s6, s7, s8, s9, s10⟩
         go_simp
         with_reducible rfl
        rotate_left
        ·simp only [Act.put, sA, sB, sC, i64_w, i32_w]
         rfl
        refine one_ (i := 18) (N := some 76) (bs 22 1048575) rfl rfl (one_of HT_.out (by kernel_rfl)) (by decide) (fun K hK => ?_)
        refine goes_ Try.func21 (by kernel_rfl) rfl #[.agg #[.int .i64 2, .int .i64 1, .slice Ao15 y421.length co15], .int .i64 1, .int .i64 0] (by rfl) rfl rfl (by (try simp only [List.map_toArray, List.map_cons, List.map_nil]); first | done | rfl | (simp only [List.length_drop, List.length_take]; rfl)) ?_
        with_reducible refine (raster_At.calls kj2 2 1 _ _ y421 1 0 t458 t459 t460 t461 _ ?side1 ?side2 A103.out).mono ?_
        (case side1 => repeat (first | exact (Kd.R_reads' HO_425002.out).2.2 | (with_reducible refine Kd.C_alloc ?_ _) | (with_reducible refine Kd.C_drewN ?_ _) | (with_reducible refine Kd.C_drew ?_)))
        (case side2 => exact (Kd.R_reads' HO_425002.out).2.1)
        rintro e w108 ⟨rfl, hb⟩
        refine ⟨_, rfl, ?_⟩
        replace HO_425002 := zr HO_425002 hb
        replace HO_439002 := zr HO_439002 hb
        replace BK418 := zk BK418 hb
        replace BK419 := zk BK419 hb
        replace BK420 := zk BK420 hb
        replace BK424 := zk BK424 hb
        replace BK438 := zk BK438 hb
        replace HB := zb HB hb
        (try clear hb)
        (try clear hb2)
        (try clear hk)
        (try clear hi)
        refine hK.out _ _ ⟨(blk_cell BK424.out 0).trans rfl, (blk_cell BK424.out 1).trans rfl, (blk_cell BK424.out 2).trans rfl, (blk_cell BK419.out 0).trans rfl, (blk_cell BK419.out 1).trans rfl, (blk_cell BK419.out 2).trans rfl, (blk_cell BK419.out 3).trans rfl, (blk_cell BK418.out 0).trans rfl, (blk_cell BK418.out 1).trans rfl, (blk_cell BK418.out 2).trans rfl, (blk_cell BK418.out 3).trans rfl⟩ (fun hHeld => ?_)
        clear hK K
        refine norm_ (a' := ?_) ?_ ?_
        rotate_left
        ·show Act.put _ (some 76) _ = _
         simp only [Act.put, sA, sB, sC, i64_w, i32_w]
         rfl
        refine pure_ (i := 20) (N := some 78) (v := ?_) (a' := ?_) (bs 22 2097151) rfl rfl (any_of HT_.out (by kernel_rfl)) (fun _ _ _ h => h) (Or.inl ⟨by rfl, ?_⟩) ?_ ?_
        rotate_left
        ·intro w'
         go_simp
         with_reducible rfl
        rotate_left
        ·simp only [Act.put, sA, sB, sC, i64_w, i32_w]
         rfl
        refine pure_ (i := 21) (N := some 79) (v := ?_) (a' := ?_) (bs 22 4194303) rfl rfl (any_of HT_.out (by kernel_rfl)) (fun _ _ _ h => h) (Or.inl ⟨by rfl, ?_⟩) ?_ ?_
        rotate_left
        ·intro w'
         go_simp
         with_reducible rfl
        rotate_left
        ·simp only [Act.put, sA, sB, sC, i64_w, i32_w]
         rfl
        refine done_ (done_of HT_.out (by kernel_rfl)) ?_
        try go_wp2
        go_meet
        case rel => exact ⟨_, ((!(t458 == 0) || (!(t459 == 2) || (!(t460 == 0) || (!(t461 == 8)))))), (by first | rfl | (simp; done) | (simp [*]; done)), H', ⟨by have := HJ2.out; first | omega | exact Nat.le_refl _⟩, ⟨by exact zr0 HO_425002⟩, ⟨by exact zr0 HO_439002⟩, ⟨by exact zk0 BK418⟩, ⟨by exact zk0 BK419⟩, ⟨by exact zk0 BK420⟩, ⟨by exact zk0 BK424⟩, ⟨by exact zk0 BK438⟩, ⟨by exact zb0 HB⟩⟩
    case rest =>
     clear HC87
     try clear c2
     try clear p2
     try clear c9
     try clear c21
     try clear c23
     try clear c93
     try clear c93b0
     try clear c98
     try clear c98b0
     obtain ⟨kq, x79_86, rfl, HA, HJ86, HO_425002, HO_439002, BK418, BK419, BK420, BK424, BK438, HB⟩ := hcut
     cases kq with
     | zero => exact absurd HA.out (by simp [imageeditorlaw11_awake.j1])
     | succ kj86 =>
      have H := HA.out
      clear HA
      simp only [imageeditorlaw11_awake.j1] at H
      by_cases c109 : x79_86 = true
      ·subst c109
       have H1 : (some false) = some r := by rw [if_pos rfl] at H; exact H
       clear H
       have H := H1
       clear H1
       exact absurd HT.out (by rw [← Option.some.inj H]; decide)
      ·replace c109 := Bool.eq_false_iff.mpr c109
       subst c109
       have H1 : ((raster_Crop.f kj86 2 1 y421 1 (-1) 2 2).bind fun bt462 => (if bt462.2.2.2 = 0 then ((imageeditorlaw11_same.f kj86 bt462.1 bt462.2.1 bt462.2.2.1 2 2 (([(⟨0, 0, 0, 0⟩ : S26), (⟨0, 0, 0, 0⟩ : S26), (⟨0, 2, 0, 8⟩ : S26), (⟨0, 0, 0, 0⟩ : S26)] : List (S26)))).bind fun t472 => (imageeditorlaw11_awake.j2 kj86 (!t472) 1 0 0 9 0 2 0 8 0 0 3 7 2 1 y421)) else (imageeditorlaw11_awake.j2 kj86 true 1 0 0 9 0 2 0 8 0 0 3 7 2 1 y421))) = some r := by rw [if_neg (show ¬ (false = true) by decide)] at H; exact H
       clear H
       have H := H1
       clear H1
       replace H := Option.bind_eq_some_iff.mp H
       obtain ⟨⟨t462, t463, t464, t467⟩, A1100, H⟩ := H
       replace H : (if t467 = 0 then ((imageeditorlaw11_same.f kj86 t462 t463 t464 2 2 (([(⟨0, 0, 0, 0⟩ : S26), (⟨0, 0, 0, 0⟩ : S26), (⟨0, 2, 0, 8⟩ : S26), (⟨0, 0, 0, 0⟩ : S26)] : List (S26)))).bind fun t472 => (imageeditorlaw11_awake.j2 kj86 (!t472) 1 0 0 9 0 2 0 8 0 0 3 7 2 1 y421)) else (imageeditorlaw11_awake.j2 kj86 true 1 0 0 9 0 2 0 8 0 0 3 7 2 1 y421)) = some r := H
       have A110 := Aside0.mk A1100
       clear A1100
       have HC111 := Aside0.mk H
       clear H
       have hnb112 := NB424_418.out
       have hnc112 := NB418_424.out
       have hnb113 := NB424_419.out
       have hnc113 := NB419_424.out
       have hnb114 := NB424_420.out
       have hnc114 := NB420_424.out
       have hnb115 := NB424_438.out
       have hnc115 := NB438_424.out
       obtain ⟨hcz116_0, hcz116_1, hcz116_2, hfz116_0, hfz116_1, hfz116_2⟩ := zq3 BK424
       (try clear HO_439002)
       (try clear BK438)
       go_upto_region 10 with (first | ((with_reducible refine gate_callee (f := 27) rfl ?_); refine goesL_ (some 83) rfl rfl Try.func27 (by kernel_rfl) rfl #[.agg #[.int .i64 2, .int .i64 1, .slice Ao15 y421.length co15], .agg #[.int .i64 1, .int .i64 (-1), .int .i64 2, .int .i64 2]] rfl (by (try simp only [List.map_toArray, List.map_cons, List.map_nil]); first | done | rfl | (simp only [List.length_drop, List.length_take]; rfl)) ?_; (with_reducible refine (raster_Crop.calls kj86 2 1 _ _ y421 1 (-1) 2 2 t462 t463 t464 t467 _ ?side1 ?side2 A110.out).mono ?_); (case side1 => repeat (first | exact (Kd.R_reads' HO_425002.out).2.2 | (with_reducible refine Kd.C_alloc ?_ _) | (with_reducible refine Kd.C_drewN ?_ _) | (with_reducible refine Kd.C_drew ?_))); (case side2 => exact (Kd.R_reads' HO_425002.out).2.1); rintro e w117 ⟨v465, rfl, ho0, hb⟩; refine ⟨_, rfl, ?_⟩; have n0_ := Aside0.mk (Kd.R_lower (Kd.R_newB (Kd.R_newB (Kd.R_newB ho0 (zk0 BK418)) (zk0 BK419)) (zk0 BK420)) (below_size (by exact zb0 HB))); replace HO_425002 := zr HO_425002 hb; replace BK418 := zk BK418 hb; replace BK419 := zk BK419 hb; replace BK420 := zk BK420 hb; replace BK424 := zk BK424 hb; replace HB := zb HB hb; have HO466 := n0_; clear n0_; (try clear hb); (try clear hb2); (try clear hk); (try clear hi); (try clear ho0)) | ((with_reducible refine gate_dst (N := 9) rfl ?_); (try (refine gate_guard (by rfl) ?_; dsimp only)); refine box_event ?hg (N := 9) ?hd (cs := #[.int .i64 0, .int .i64 0, .slice none 0 0]) (t := 24) ?hr ?_; (case hd => rfl); (case hg => rfl); (case hr => first | (go_simp; done) | (go_simp; rfl)); intro gb468 hg w118 hbox hb; have GW468 := zg HB hg; have GE468 := zg HB hg; have NB418_468 := zn BK418 hg; have NB468_418 := zn' BK418 hg; have NB419_468 := zn BK419 hg; have NB468_419 := zn' BK419 hg; have NB420_468 := zn BK420 hg; have NB468_420 := zn' BK420 hg; have NB424_468 := zn BK424 hg; have NB468_424 := zn' BK424 hg; have n0_ := Aside0.mk (hbox); replace HO_425002 := zr HO_425002 hb; replace HO466 := zr HO466 hb; replace BK418 := zk BK418 hb; replace BK419 := zk BK419 hb; replace BK420 := zk BK420 hb; replace BK424 := zk BK424 hb; replace HB := zb HB hb; have BK468 := n0_; clear n0_; clear hb hbox hg; have hnb119 := NB468_418.out; have hnc119 := NB418_468.out; have hnb120 := NB468_419.out; have hnc120 := NB419_468.out; have hnb121 := NB468_420.out; have hnc121 := NB420_468.out; have hnb122 := NB468_424.out; have hnc122 := NB424_468.out; obtain ⟨hcz123_0, hcz123_1, hcz123_2, hfz123_0, hfz123_1, hfz123_2⟩ := zq3 BK468; obtain ⟨Ao124, co124, eo124⟩ := Kd.R_slice HO466.out; subst eo124))
       (try simp only [Act.put, sA, sB, sC])
       go_cut [98] (fun v98 wc => ∃ (kq : Nat) (x98_110 : Bool), v98 = .bool x98_110 ∧ Aside0 (imageeditorlaw11_awake.j2 kq x98_110 1 0 0 9 0 2 0 8 0 0 3 7 2 1 y421 = some r) ∧ Aside0 (kq ≤ kj86) ∧ Aside0 (Kd.R k26 26 wc w.heap.size (fun k_ => k_ ≠ gb418 ∧ k_ ≠ gb419 ∧ k_ ≠ gb420) (.slice Ao15 y421.length co15) y421) ∧ Aside0 (Kd.R k26 26 wc w.heap.size (fun k_ => k_ ≠ gb418 ∧ k_ ≠ gb419 ∧ k_ ≠ gb420) (.slice Ao124 t464.length co124) t464) ∧ Aside0 (wc.heap[gb418]? = some (.cells #[.int .i64 1, .int .i64 0, .int .i64 0, .int .i64 9] 26 (0, 0))) ∧ Aside0 (wc.heap[gb419]? = some (.cells #[.int .i64 0, .int .i64 2, .int .i64 0, .int .i64 8] 26 (0, 0))) ∧ Aside0 (wc.heap[gb420]? = some (.cells #[.int .i64 0, .int .i64 0, .int .i64 3, .int .i64 7] 26 (0, 0))) ∧ Aside0 (wc.heap[gb424]? = some (.cells #[.int .i64 2, .int .i64 1, (.slice Ao15 y421.length co15)] 24 (0, 0))) ∧ Aside0 (wc.heap[gb468]? = some (.cells #[.int .i64 t462, .int .i64 t463, (.slice Ao124 t464.length co124)] 24 (0, 0))) ∧ Aside0 (Below w.heap.size w wc))
       case first =>
        have H := HC111.out
        clear HC111
        by_cases c125 : t467 = 0
        ·rw [if_pos c125] at H
         have c125b0 : (t467 == 0) = true := beq_iff_eq.mpr c125
         have c125b1 : (t467 != 0) = false := bne_eq_false_iff_eq.mpr c125
         clear c125
         (first | rw [c125b0] | (simp only [i64_w, i32_w]; rw [c125b0]) | skip)
         obtain ⟨y469, hy469⟩ : ∃ y_ : List (S26), y_ = (([(⟨0, 0, 0, 0⟩ : S26), (⟨0, 0, 0, 0⟩ : S26), (⟨0, 2, 0, 8⟩ : S26), (⟨0, 0, 0, 0⟩ : S26)] : List (S26))) := ⟨_, rfl⟩
         replace H : ((imageeditorlaw11_same.f kj86 t462 t463 t464 2 2 y469).bind fun t472 => (imageeditorlaw11_awake.j2 kj86 (!t472) 1 0 0 9 0 2 0 8 0 0 3 7 2 1 y421)) = some r := by first | (rw [hy469]; with_reducible exact H) | (have H2_ := (Option.bind_some _ _).symm.trans H; rw [hy469]; with_reducible exact H2_) | (have H2_ := (Option.bind_some _ _).symm.trans H; with_reducible exact H2_) | with_reducible exact H | (rw [hy469]; exact H) | exact H
         have Ny469 := Aside0.mk hy469
         clear hy469
         replace H := Option.bind_eq_some_iff.mp H
         obtain ⟨t472, A1260, H⟩ := H
         replace H : (imageeditorlaw11_awake.j2 kj86 (!t472) 1 0 0 9 0 2 0 8 0 0 3 7 2 1 y421) = some r := H
         have A126 := Aside0.mk A1260
         clear A1260
         have H' := Aside0.mk H
         clear H
         obtain ⟨hcz127_0, hcz127_1, hcz127_2, hfz127_0, hfz127_1, hfz127_2⟩ := zq3 BK468
         obtain ⟨hcz128_0, hcz128_1, hcz128_2, hcz128_3, hfz128_0, hfz128_1, hfz128_2, hfz128_3⟩ := zq4 BK419
         go_wp2_with (first | ((with_reducible refine gate_dst (N := 94) rfl ?_); (try (refine gate_guard (by rfl) ?_; dsimp only)); refine Kd.R_lit k26 _ 26 ?hg (N := 94) ?hd (xs := ([(⟨0, 0, 0, 0⟩ : S26), (⟨0, 0, 0, 0⟩ : S26), (⟨0, 2, 0, 8⟩ : S26), (⟨0, 0, 0, 0⟩ : S26)] : List (S26))) (inner := [.int .i64 0, .int .i64 0, .int .i64 0, .int .i64 0, .int .i64 0, .int .i64 0, .int .i64 0, .int .i64 0, .int .i64 0, .int .i64 2, .int .i64 0, .int .i64 8, .int .i64 0, .int .i64 0, .int .i64 0, .int .i64 0]) (ok := fun _ => True) (okp := fun _ => True) ?hr ?hp (fun _ hk => hk) trivial (Below.refl _ _) (Nat.le_refl _) (by simp) ?_; (case hd => rfl); (case hg => rfl); (case hr => first | (go_simp; done) | (go_simp; rfl)); (case hp => exact (Reps.c4 (show Kd.M k26 _ _ _ (⟨0, 0, 0, 0⟩ : S26) [.int .i64 0, .int .i64 0, .int .i64 0, .int .i64 0] from (k26_mkM _ _ _ (⟨0, 0, 0, 0⟩ : S26) )) (Reps.c4 (show Kd.M k26 _ _ _ (⟨0, 0, 0, 0⟩ : S26) [.int .i64 0, .int .i64 0, .int .i64 0, .int .i64 0] from (k26_mkM _ _ _ (⟨0, 0, 0, 0⟩ : S26) )) (Reps.c4 (show Kd.M k26 _ _ _ (⟨0, 2, 0, 8⟩ : S26) [.int .i64 0, .int .i64 2, .int .i64 0, .int .i64 8] from (k26_mkM _ _ _ (⟨0, 2, 0, 8⟩ : S26) )) (Reps.c4 (show Kd.M k26 _ _ _ (⟨0, 0, 0, 0⟩ : S26) [.int .i64 0, .int .i64 0, .int .i64 0, .int .i64 0] from (k26_mkM _ _ _ (⟨0, 0, 0, 0⟩ : S26) )) (Reps.none _ _)))))); intro v470 w129 ho130 hb hg_ hnew_; clear hg_ hnew_; (first | rw [← Ny469.out] at ho130 | (simp only [Int.reduceToNat] at ho130; rw [← Ny469.out] at ho130)); have n0_ := Aside0.mk (Kd.R_below (by exact zro HO_425002 BK468 (by decide)) hb); have n1_ := Aside0.mk (Kd.R_below (by exact zro HO466 BK468 (by decide)) hb); have n2_ := Aside0.mk (Kd.R_lower (Kd.R_newB (Kd.R_newB (Kd.R_newB ho130 (zf BK418 NB418_468)) (zf BK419 NB419_468)) (zf BK420 NB420_468)) (below_size (by exact zbo HB GE468))); have n3_ := Aside0.mk (blk_below (g := gb468) (o := .cells #[.int .i64 t462, .int .i64 t463, .slice Ao124 t464.length co124] 24 (0, 0)) (by exact zp BK468 rfl) hb); have n4_ := Aside0.mk (below_step (by exact zbo HB GE468) hb); replace BK418 := zfk BK418 NB418_468 hb; replace BK419 := zfk BK419 NB419_468 hb; replace BK420 := zfk BK420 NB420_468 hb; replace BK424 := zfk BK424 NB424_468 hb; clear HO_425002; clear HO466; clear BK468; clear HB; have HO_425002 := n0_; have HO466 := n1_; have HO471 := n2_; have BK468 := n3_; have HB := n4_; clear n0_ n1_ n2_ n3_ n4_; clear hb ho130; obtain ⟨Ao131, co131, eo131⟩ := Kd.R_slice HO471.out; subst eo131) | (go_at_call 20; (with_reducible refine (imageeditorlaw11_same.calls kj86 t462 t463 _ _ t464 2 2 _ _ y469 t472 _ ?side1 ?side2 ?side3 ?side4 A126.out).mono ?_); (case side1 => repeat (first | exact (Kd.R_reads' HO466.out).2.2 | (with_reducible refine Kd.C_alloc ?_ _) | (with_reducible refine Kd.C_drewN ?_ _) | (with_reducible refine Kd.C_drew ?_))); (case side2 => exact (Kd.R_reads' HO466.out).2.1); (case side3 => repeat (first | exact (Kd.R_reads' HO471.out).2.2 | (with_reducible refine Kd.C_alloc ?_ _) | (with_reducible refine Kd.C_drewN ?_ _) | (with_reducible refine Kd.C_drew ?_))); (case side4 => exact (Kd.R_reads' HO471.out).2.1); rintro e w132 ⟨rfl, hb⟩; replace HO_425002 := zr HO_425002 hb; replace HO466 := zr HO466 hb; replace HO471 := zr HO471 hb; replace BK418 := zk BK418 hb; replace BK419 := zk BK419 hb; replace BK420 := zk BK420 hb; replace BK424 := zk BK424 hb; replace BK468 := zk BK468 hb; replace HB := zb HB hb; (try clear hb); (try clear hb2); (try clear hk); (try clear hi)))
         go_meet
         case rel => exact ⟨_, (!t472), (by first | rfl | (simp; done) | (simp [*]; done)), H', ⟨by have := HJ2.out; have := HJ86.out; first | omega | exact Nat.le_refl _⟩, ⟨by exact zr0 HO_425002⟩, ⟨by (with_reducible repeat (first | apply Kd.R_alloc | apply Kd.R_drewN | apply Kd.R_drew)); exact Kd.R_mono HO466.out (fun _ hk => ⟨hk.1.1.2, ⟨hk.1.2, hk.2⟩⟩)⟩, ⟨by exact zk0 BK418⟩, ⟨by exact zk0 BK419⟩, ⟨by exact zk0 BK420⟩, ⟨by exact zk0 BK424⟩, ⟨by exact zk0 BK468⟩, ⟨by exact zb0 HB⟩⟩
        ·rw [if_neg c125] at H
         have c125b0 : (t467 == 0) = false := beq_eq_false_iff_ne.mpr c125
         have c125b1 : (t467 != 0) = true := bne_iff_ne.mpr c125
         (first | rw [c125b0] | (simp only [i64_w, i32_w]; rw [c125b0]) | skip)
         have H' := Aside0.mk H
         clear H
         go_wp2
         go_meet
         case rel => exact ⟨_, (true), (by first | rfl | (simp; done) | (simp [*]; done)), H', ⟨by have := HJ2.out; have := HJ86.out; first | omega | exact Nat.le_refl _⟩, ⟨by exact zro HO_425002 BK468 (by decide)⟩, ⟨by (with_reducible repeat (first | apply Kd.R_alloc | apply Kd.R_drewN | apply Kd.R_drew)); exact Kd.R_mono (Kd.R_far (p := ⟨gb468, 2, none⟩) (Kd.R_far (p := ⟨gb468, 1, none⟩) (Kd.R_far (p := ⟨gb468, 0, none⟩) (Kd.R_types HO466.out BK468.out (by decide)) (fun _ hk => hk.2) (.int .i64 t462)) (fun _ hk => hk.2) (.int .i64 t463)) (fun _ hk => hk.2) (.slice Ao124 t464.length co124)) (fun _ hk => ⟨hk.1.1.1.2, ⟨hk.1.1.2, hk.1.2⟩⟩)⟩, ⟨by exact zf BK418 NB418_468⟩, ⟨by exact zf BK419 NB419_468⟩, ⟨by exact zf BK420 NB420_468⟩, ⟨by exact zf BK424 NB424_468⟩, ⟨by exact zp BK468 rfl⟩, ⟨by exact zbo HB GE468⟩⟩
       case rest =>
        clear HC111
        try clear c1
        try clear c2
        try clear p2
        try clear q3
        try clear c4
        try clear q4
        try clear c9
        try clear c10
        try clear c11
        try clear c12
        try clear c21
        try clear c23
        try clear c27
        try clear c93
        try clear c93b0
        try clear c98
        try clear c98b0
        try clear c109
        try clear c112
        try clear c113
        try clear c114
        try clear c115
        try clear c119
        try clear c120
        try clear c121
        try clear c122
        try clear c125
        try clear c125b0
        try clear c125b1
        try clear hcz116_0
        try clear hcz116_1
        try clear hcz116_2
        try clear hcz123_0
        try clear hcz123_1
        try clear hcz123_2
        try clear hcz127_0
        try clear hcz127_1
        try clear hcz127_2
        try clear hcz128_0
        try clear hcz128_1
        try clear hcz128_2
        try clear hcz128_3
        try clear hfz116_0
        try clear hfz116_1
        try clear hfz116_2
        try clear hfz123_0
        try clear hfz123_1
        try clear hfz123_2
        try clear hfz127_0
        try clear hfz127_1
        try clear hfz127_2
        try clear hfz128_0
        try clear hfz128_1
        try clear hfz128_2
        try clear hfz128_3
        try clear p2
        obtain ⟨kq, x98_110, rfl, HA, HJ110, HO_425002, HO_469002, BK418, BK419, BK420, BK424, BK468, HB⟩ := hcut
        cases kq with
        | zero => exact absurd HA.out (by simp [imageeditorlaw11_awake.j2])
        | succ kj110 =>
         have H := HA.out
         clear HA
         simp only [imageeditorlaw11_awake.j2] at H
         by_cases c133 : x98_110 = true
         ·subst c133
          have H1 : (some false) = some r := by rw [if_pos rfl] at H; exact H
          clear H
          have H := H1
          clear H1
          exact absurd HT.out (by rw [← Option.some.inj H]; decide)
         ·replace c133 := Bool.eq_false_iff.mpr c133
          subst c133
          have H1 : ((raster_Flip.f kj110 2 1 y421 3).bind fun bt473 => (if bt473.2.2.2 = 0 then ((imageeditorlaw11_same.f kj110 bt473.1 bt473.2.1 bt473.2.2.1 1 2 (([(⟨1, 0, 0, 9⟩ : S26), (⟨0, 2, 0, 8⟩ : S26)] : List (S26)))).bind fun t482 => (imageeditorlaw11_awake.j3 kj110 (!t482) 1 0 0 9 0 0 3 7 2 1 y421)) else (imageeditorlaw11_awake.j3 kj110 true 1 0 0 9 0 0 3 7 2 1 y421))) = some r := by rw [if_neg (show ¬ (false = true) by decide)] at H; exact H
          clear H
          have H := H1
          clear H1
          replace H := Option.bind_eq_some_iff.mp H
          obtain ⟨⟨t473, t474, t475, t478⟩, A1340, H⟩ := H
          replace H : (if t478 = 0 then ((imageeditorlaw11_same.f kj110 t473 t474 t475 1 2 (([(⟨1, 0, 0, 9⟩ : S26), (⟨0, 2, 0, 8⟩ : S26)] : List (S26)))).bind fun t482 => (imageeditorlaw11_awake.j3 kj110 (!t482) 1 0 0 9 0 0 3 7 2 1 y421)) else (imageeditorlaw11_awake.j3 kj110 true 1 0 0 9 0 0 3 7 2 1 y421)) = some r := H
          have A134 := Aside0.mk A1340
          clear A1340
          have HC135 := Aside0.mk H
          clear H
          have hnb136 := NB424_418.out
          have hnc136 := NB418_424.out
          have hnb137 := NB424_419.out
          have hnc137 := NB419_424.out
          have hnb138 := NB424_420.out
          have hnc138 := NB420_424.out
          have hnb139 := NB424_468.out
          have hnc139 := NB468_424.out
          obtain ⟨hcz140_0, hcz140_1, hcz140_2, hfz140_0, hfz140_1, hfz140_2⟩ := zq3 BK424
          go_upto_region 13 with (first | ((with_reducible refine gate_callee (f := 31) rfl ?_); refine goesL_ (some 101) rfl rfl Try.func31 (by kernel_rfl) rfl #[.agg #[.int .i64 2, .int .i64 1, .slice Ao15 y421.length co15], .int .i64 3] rfl (by (try simp only [List.map_toArray, List.map_cons, List.map_nil]); first | done | rfl | (simp only [List.length_drop, List.length_take]; rfl)) ?_; (with_reducible refine (raster_Flip.calls kj110 2 1 _ _ y421 3 t473 t474 t475 t478 _ ?side1 ?side2 A134.out).mono ?_); (case side1 => repeat (first | exact (Kd.R_reads' HO_425002.out).2.2 | (with_reducible refine Kd.C_alloc ?_ _) | (with_reducible refine Kd.C_drewN ?_ _) | (with_reducible refine Kd.C_drew ?_))); (case side2 => exact (Kd.R_reads' HO_425002.out).2.1); rintro e w141 ⟨v476, rfl, ho0, hb⟩; refine ⟨_, rfl, ?_⟩; have n0_ := Aside0.mk (Kd.R_lower (Kd.R_newB (Kd.R_newB (Kd.R_newB ho0 (zk0 BK418)) (zk0 BK419)) (zk0 BK420)) (below_size (by exact zb0 HB))); replace HO_425002 := zr HO_425002 hb; replace HO_469002 := zr HO_469002 hb; replace BK418 := zk BK418 hb; replace BK419 := zk BK419 hb; replace BK420 := zk BK420 hb; replace BK424 := zk BK424 hb; replace BK468 := zk BK468 hb; replace HB := zb HB hb; have HO477 := n0_; clear n0_; (try clear hb); (try clear hb2); (try clear hk); (try clear hi); (try clear ho0); have hnb142 := NB468_418.out; have hnc142 := NB418_468.out; have hnb143 := NB468_419.out; have hnc143 := NB419_468.out; have hnb144 := NB468_420.out; have hnc144 := NB420_468.out; obtain ⟨hcz145_0, hcz145_1, hcz145_2, hfz145_0, hfz145_1, hfz145_2⟩ := zq3 BK468; obtain ⟨Ao146, co146, eo146⟩ := Kd.R_slice HO477.out; subst eo146))
          (try simp only [Act.put, sA, sB, sC])
          go_cut [114] (fun v114 wc => ∃ (kq : Nat) (x114_134 : Bool), v114 = .bool x114_134 ∧ Aside0 (imageeditorlaw11_awake.j3 kq x114_134 1 0 0 9 0 0 3 7 2 1 y421 = some r) ∧ Aside0 (kq ≤ kj110) ∧ Aside0 (Kd.R k26 26 wc w.heap.size (fun k_ => k_ ≠ gb418 ∧ k_ ≠ gb419 ∧ k_ ≠ gb420) (.slice Ao15 y421.length co15) y421) ∧ Aside0 (Kd.R k26 26 wc w.heap.size (fun k_ => k_ ≠ gb418 ∧ k_ ≠ gb419 ∧ k_ ≠ gb420) (.slice Ao146 t475.length co146) t475) ∧ Aside0 (wc.heap[gb418]? = some (.cells #[.int .i64 1, .int .i64 0, .int .i64 0, .int .i64 9] 26 (0, 0))) ∧ Aside0 (wc.heap[gb419]? = some (.cells #[.int .i64 0, .int .i64 2, .int .i64 0, .int .i64 8] 26 (0, 0))) ∧ Aside0 (wc.heap[gb420]? = some (.cells #[.int .i64 0, .int .i64 0, .int .i64 3, .int .i64 7] 26 (0, 0))) ∧ Aside0 (wc.heap[gb424]? = some (.cells #[.int .i64 2, .int .i64 1, (.slice Ao15 y421.length co15)] 24 (0, 0))) ∧ Aside0 (wc.heap[gb468]? = some (.cells #[.int .i64 t473, .int .i64 t474, (.slice Ao146 t475.length co146)] 24 (0, 0))) ∧ Aside0 (Below w.heap.size w wc))
          case first =>
           have H := HC135.out
           clear HC135
           by_cases c147 : t478 = 0
           ·rw [if_pos c147] at H
            have c147b0 : (t478 == 0) = true := beq_iff_eq.mpr c147
            have c147b1 : (t478 != 0) = false := bne_eq_false_iff_eq.mpr c147
            clear c147
            (first | rw [c147b0] | (simp only [i64_w, i32_w]; rw [c147b0]) | skip)
            obtain ⟨y479, hy479⟩ : ∃ y_ : List (S26), y_ = (([(⟨1, 0, 0, 9⟩ : S26), (⟨0, 2, 0, 8⟩ : S26)] : List (S26))) := ⟨_, rfl⟩
            replace H : ((imageeditorlaw11_same.f kj110 t473 t474 t475 1 2 y479).bind fun t482 => (imageeditorlaw11_awake.j3 kj110 (!t482) 1 0 0 9 0 0 3 7 2 1 y421)) = some r := by first | (rw [hy479]; with_reducible exact H) | (have H2_ := (Option.bind_some _ _).symm.trans H; rw [hy479]; with_reducible exact H2_) | (have H2_ := (Option.bind_some _ _).symm.trans H; with_reducible exact H2_) | with_reducible exact H | (rw [hy479]; exact H) | exact H
            have Ny479 := Aside0.mk hy479
            clear hy479
            replace H := Option.bind_eq_some_iff.mp H
            obtain ⟨t482, A1480, H⟩ := H
            replace H : (imageeditorlaw11_awake.j3 kj110 (!t482) 1 0 0 9 0 0 3 7 2 1 y421) = some r := H
            have A148 := Aside0.mk A1480
            clear A1480
            have H' := Aside0.mk H
            clear H
            obtain ⟨hcz149_0, hcz149_1, hcz149_2, hfz149_0, hfz149_1, hfz149_2⟩ := zq3 BK468
            obtain ⟨hcz150_0, hcz150_1, hcz150_2, hcz150_3, hfz150_0, hfz150_1, hfz150_2, hfz150_3⟩ := zq4 BK418
            obtain ⟨hcz151_0, hcz151_1, hcz151_2, hcz151_3, hfz151_0, hfz151_1, hfz151_2, hfz151_3⟩ := zq4 BK419
            go_wp2_with (first | ((with_reducible refine gate_dst (N := 110) rfl ?_); (try (refine gate_guard (by rfl) ?_; dsimp only)); refine Kd.R_lit k26 _ 26 ?hg (N := 110) ?hd (xs := ([(⟨1, 0, 0, 9⟩ : S26), (⟨0, 2, 0, 8⟩ : S26)] : List (S26))) (inner := [.int .i64 1, .int .i64 0, .int .i64 0, .int .i64 9, .int .i64 0, .int .i64 2, .int .i64 0, .int .i64 8]) (ok := fun _ => True) (okp := fun _ => True) ?hr ?hp (fun _ hk => hk) trivial (Below.refl _ _) (Nat.le_refl _) (by simp) ?_; (case hd => rfl); (case hg => rfl); (case hr => first | (go_simp; done) | (go_simp; rfl)); (case hp => exact (Reps.c4 (show Kd.M k26 _ _ _ (⟨1, 0, 0, 9⟩ : S26) [.int .i64 1, .int .i64 0, .int .i64 0, .int .i64 9] from (k26_mkM _ _ _ (⟨1, 0, 0, 9⟩ : S26) )) (Reps.c4 (show Kd.M k26 _ _ _ (⟨0, 2, 0, 8⟩ : S26) [.int .i64 0, .int .i64 2, .int .i64 0, .int .i64 8] from (k26_mkM _ _ _ (⟨0, 2, 0, 8⟩ : S26) )) (Reps.none _ _)))); intro v480 w152 ho153 hb hg_ hnew_; clear hg_ hnew_; (first | rw [← Ny479.out] at ho153 | (simp only [Int.reduceToNat] at ho153; rw [← Ny479.out] at ho153)); have n0_ := Aside0.mk (Kd.R_below (by exact zro HO_425002 BK468 (by decide)) hb); have n1_ := Aside0.mk (Kd.R_below (by exact zro HO_469002 BK468 (by decide)) hb); have n2_ := Aside0.mk (Kd.R_below (by exact zro HO477 BK468 (by decide)) hb); have n3_ := Aside0.mk (Kd.R_lower (Kd.R_newB (Kd.R_newB (Kd.R_newB ho153 (zf BK418 NB418_468)) (zf BK419 NB419_468)) (zf BK420 NB420_468)) (below_size (by exact zbo HB GE468))); have n4_ := Aside0.mk (blk_below (g := gb468) (o := .cells #[.int .i64 t473, .int .i64 t474, .slice Ao146 t475.length co146] 24 (0, 0)) (by exact zp BK468 rfl) hb); have n5_ := Aside0.mk (below_step (by exact zbo HB GE468) hb); replace BK418 := zfk BK418 NB418_468 hb; replace BK419 := zfk BK419 NB419_468 hb; replace BK420 := zfk BK420 NB420_468 hb; replace BK424 := zfk BK424 NB424_468 hb; clear HO_425002; clear HO_469002; clear HO477; clear BK468; clear HB; have HO_425002 := n0_; have HO_469002 := n1_; have HO477 := n2_; have HO481 := n3_; have BK468 := n4_; have HB := n5_; clear n0_ n1_ n2_ n3_ n4_ n5_; clear hb ho153; obtain ⟨Ao154, co154, eo154⟩ := Kd.R_slice HO481.out; subst eo154; (try clear HO_469002)) | (go_at_call 20; (with_reducible refine (imageeditorlaw11_same.calls kj110 t473 t474 _ _ t475 1 2 _ _ y479 t482 _ ?side1 ?side2 ?side3 ?side4 A148.out).mono ?_); (case side1 => repeat (first | exact (Kd.R_reads' HO477.out).2.2 | (with_reducible refine Kd.C_alloc ?_ _) | (with_reducible refine Kd.C_drewN ?_ _) | (with_reducible refine Kd.C_drew ?_))); (case side2 => exact (Kd.R_reads' HO477.out).2.1); (case side3 => repeat (first | exact (Kd.R_reads' HO481.out).2.2 | (with_reducible refine Kd.C_alloc ?_ _) | (with_reducible refine Kd.C_drewN ?_ _) | (with_reducible refine Kd.C_drew ?_))); (case side4 => exact (Kd.R_reads' HO481.out).2.1); rintro e w155 ⟨rfl, hb⟩; replace HO_425002 := zr HO_425002 hb; replace HO477 := zr HO477 hb; replace HO481 := zr HO481 hb; replace BK418 := zk BK418 hb; replace BK419 := zk BK419 hb; replace BK420 := zk BK420 hb; replace BK424 := zk BK424 hb; replace BK468 := zk BK468 hb; replace HB := zb HB hb; (try clear hb); (try clear hb2); (try clear hk); (try clear hi)))
            go_meet
            case rel => exact ⟨_, (!t482), (by first | rfl | (simp; done) | (simp [*]; done)), H', ⟨by have := HJ2.out; have := HJ86.out; have := HJ110.out; first | omega | exact Nat.le_refl _⟩, ⟨by exact zr0 HO_425002⟩, ⟨by (with_reducible repeat (first | apply Kd.R_alloc | apply Kd.R_drewN | apply Kd.R_drew)); exact Kd.R_mono HO477.out (fun _ hk => ⟨hk.1.1.2, ⟨hk.1.2, hk.2⟩⟩)⟩, ⟨by exact zk0 BK418⟩, ⟨by exact zk0 BK419⟩, ⟨by exact zk0 BK420⟩, ⟨by exact zk0 BK424⟩, ⟨by exact zk0 BK468⟩, ⟨by exact zb0 HB⟩⟩
           ·rw [if_neg c147] at H
            have c147b0 : (t478 == 0) = false := beq_eq_false_iff_ne.mpr c147
            have c147b1 : (t478 != 0) = true := bne_iff_ne.mpr c147
            (first | rw [c147b0] | (simp only [i64_w, i32_w]; rw [c147b0]) | skip)
            have H' := Aside0.mk H
            clear H
            go_wp2
            go_meet
            case rel => exact ⟨_, (true), (by first | rfl | (simp; done) | (simp [*]; done)), H', ⟨by have := HJ2.out; have := HJ86.out; have := HJ110.out; first | omega | exact Nat.le_refl _⟩, ⟨by exact zro HO_425002 BK468 (by decide)⟩, ⟨by (with_reducible repeat (first | apply Kd.R_alloc | apply Kd.R_drewN | apply Kd.R_drew)); exact Kd.R_mono (Kd.R_far (p := ⟨gb468, 2, none⟩) (Kd.R_far (p := ⟨gb468, 1, none⟩) (Kd.R_far (p := ⟨gb468, 0, none⟩) (Kd.R_types HO477.out BK468.out (by decide)) (fun _ hk => hk.2) (.int .i64 t473)) (fun _ hk => hk.2) (.int .i64 t474)) (fun _ hk => hk.2) (.slice Ao146 t475.length co146)) (fun _ hk => ⟨hk.1.1.1.2, ⟨hk.1.1.2, hk.1.2⟩⟩)⟩, ⟨by exact zf BK418 NB418_468⟩, ⟨by exact zf BK419 NB419_468⟩, ⟨by exact zf BK420 NB420_468⟩, ⟨by exact zf BK424 NB424_468⟩, ⟨by exact zp BK468 rfl⟩, ⟨by exact zbo HB GE468⟩⟩
          case rest =>
           clear HC135
           try clear c1
           try clear c2
           try clear p2
           try clear c3
           try clear q3
           try clear c4
           try clear q4
           try clear c9
           try clear c10
           try clear c11
           try clear c12
           try clear c13
           try clear c14
           try clear c21
           try clear c23
           try clear c27
           try clear c31
           try clear c93
           try clear c93b0
           try clear c98
           try clear c98b0
           try clear c109
           try clear c112
           try clear c113
           try clear c114
           try clear c115
           try clear c119
           try clear c120
           try clear c121
           try clear c122
           try clear c125
           try clear c125b0
           try clear c125b1
           try clear c133
           try clear c136
           try clear c137
           try clear c138
           try clear c139
           try clear c142
           try clear c143
           try clear c144
           try clear c147
           try clear c147b0
           try clear c147b1
           try clear hcz116_0
           try clear hcz116_1
           try clear hcz116_2
           try clear hcz123_0
           try clear hcz123_1
           try clear hcz123_2
           try clear hcz127_0
           try clear hcz127_1
           try clear hcz127_2
           try clear hcz128_0
           try clear hcz128_1
           try clear hcz128_2
           try clear hcz128_3
           try clear hcz140_0
           try clear hcz140_1
           try clear hcz140_2
           try clear hcz145_0
           try clear hcz145_1
           try clear hcz145_2
           try clear hcz149_0
           try clear hcz149_1
           try clear hcz149_2
           try clear hcz150_0
           try clear hcz150_1
           try clear hcz150_2
           try clear hcz150_3
           try clear hcz151_0
           try clear hcz151_1
           try clear hcz151_2
           try clear hcz151_3
           try clear hfz116_0
           try clear hfz116_1
           try clear hfz116_2
           try clear hfz123_0
           try clear hfz123_1
           try clear hfz123_2
           try clear hfz127_0
           try clear hfz127_1
           try clear hfz127_2
           try clear hfz128_0
           try clear hfz128_1
           try clear hfz128_2
           try clear hfz128_3
           try clear hfz140_0
           try clear hfz140_1
           try clear hfz140_2
           try clear hfz145_0
           try clear hfz145_1
           try clear hfz145_2
           try clear hfz149_0
           try clear hfz149_1
           try clear hfz149_2
           try clear hfz150_0
           try clear hfz150_1
           try clear hfz150_2
           try clear hfz150_3
           try clear hfz151_0
           try clear hfz151_1
           try clear hfz151_2
           try clear hfz151_3
           try clear p2
           try clear q3
           try clear q4
           obtain ⟨kq, x114_134, rfl, HA, HJ134, HO_425002, HO_469002, BK418, BK419, BK420, BK424, BK468, HB⟩ := hcut
           cases kq with
           | zero => exact absurd HA.out (by simp [imageeditorlaw11_awake.j3])
           | succ kj134 =>
            have H := HA.out
            clear HA
            simp only [imageeditorlaw11_awake.j3] at H
            by_cases c156 : x114_134 = true
            ·subst c156
             have H1 : (some false) = some r := by rw [if_pos rfl] at H; exact H
             clear H
             have H := H1
             clear H1
             exact absurd HT.out (by rw [← Option.some.inj H]; decide)
            ·replace c156 := Bool.eq_false_iff.mpr c156
             subst c156
             have H1 : ((raster_Put.f kj134 2 1 y421 1 1 (([(⟨0, 0, 3, 7⟩ : S26)] : List (S26))) 1 0).bind fun bt486 => (if bt486.2.2.2 = 0 then ((imageeditorlaw11_same.f kj134 bt486.1 bt486.2.1 bt486.2.2.1 2 1 (([(⟨1, 0, 0, 9⟩ : S26), (⟨0, 0, 3, 7⟩ : S26)] : List (S26)))).bind fun t495 => (if t495 = true then ((raster_Box.f kj134 2 1 y421).bind fun bt496 => (imageeditorlaw11_awake.j4 kj134 (!(bt496.1 == 0) || (!(bt496.2.1 == 0) || (!(bt496.2.2.1 == 2) || (!(bt496.2.2.2 == 1))))) 2 1 y421)) else (imageeditorlaw11_awake.j4 kj134 true 2 1 y421))) else (imageeditorlaw11_awake.j4 kj134 true 2 1 y421))) = some r := by rw [if_neg (show ¬ (false = true) by decide)] at H; exact H
             clear H
             have H := H1
             clear H1
             obtain ⟨y483, hy483⟩ : ∃ y_ : List (S26), y_ = (([(⟨0, 0, 3, 7⟩ : S26)] : List (S26))) := ⟨_, rfl⟩
             replace H : ((raster_Put.f kj134 2 1 y421 1 1 y483 1 0).bind fun bt486 => (if bt486.2.2.2 = 0 then ((imageeditorlaw11_same.f kj134 bt486.1 bt486.2.1 bt486.2.2.1 2 1 (([(⟨1, 0, 0, 9⟩ : S26), (⟨0, 0, 3, 7⟩ : S26)] : List (S26)))).bind fun t495 => (if t495 = true then ((raster_Box.f kj134 2 1 y421).bind fun bt496 => (imageeditorlaw11_awake.j4 kj134 (!(bt496.1 == 0) || (!(bt496.2.1 == 0) || (!(bt496.2.2.1 == 2) || (!(bt496.2.2.2 == 1))))) 2 1 y421)) else (imageeditorlaw11_awake.j4 kj134 true 2 1 y421))) else (imageeditorlaw11_awake.j4 kj134 true 2 1 y421))) = some r := by first | (rw [hy483]; with_reducible exact H) | (have H2_ := (Option.bind_some _ _).symm.trans H; rw [hy483]; with_reducible exact H2_) | (have H2_ := (Option.bind_some _ _).symm.trans H; with_reducible exact H2_) | with_reducible exact H | (rw [hy483]; exact H) | exact H
             have Ny483 := Aside0.mk hy483
             clear hy483
             replace H := Option.bind_eq_some_iff.mp H
             obtain ⟨⟨t486, t487, t488, t491⟩, A1570, H⟩ := H
             replace H : (if t491 = 0 then ((imageeditorlaw11_same.f kj134 t486 t487 t488 2 1 (([(⟨1, 0, 0, 9⟩ : S26), (⟨0, 0, 3, 7⟩ : S26)] : List (S26)))).bind fun t495 => (if t495 = true then ((raster_Box.f kj134 2 1 y421).bind fun bt496 => (imageeditorlaw11_awake.j4 kj134 (!(bt496.1 == 0) || (!(bt496.2.1 == 0) || (!(bt496.2.2.1 == 2) || (!(bt496.2.2.2 == 1))))) 2 1 y421)) else (imageeditorlaw11_awake.j4 kj134 true 2 1 y421))) else (imageeditorlaw11_awake.j4 kj134 true 2 1 y421)) = some r := H
             have A157 := Aside0.mk A1570
             clear A1570
             have HC158 := Aside0.mk H
             clear H
             have hnb159 := NB424_418.out
             have hnc159 := NB418_424.out
             have hnb160 := NB424_419.out
             have hnc160 := NB419_424.out
             have hnb161 := NB424_420.out
             have hnc161 := NB420_424.out
             have hnb162 := NB424_468.out
             have hnc162 := NB468_424.out
             obtain ⟨hcz163_0, hcz163_1, hcz163_2, hfz163_0, hfz163_1, hfz163_2⟩ := zq3 BK424
             have hnb164 := NB420_418.out
             have hnc164 := NB418_420.out
             have hnb165 := NB420_419.out
             have hnc165 := NB419_420.out
             have hnb166 := NB420_468.out
             have hnc166 := NB468_420.out
             obtain ⟨hcz167_0, hcz167_1, hcz167_2, hcz167_3, hfz167_0, hfz167_1, hfz167_2, hfz167_3⟩ := zq4 BK420
             have n_ := Aside0.mk (Kd.R_mono (ok' := fun k_ => k_ ≠ gb418 ∧ k_ ≠ gb420) HO_425002.out (fun k_ hk_ => ⟨hk_.1, hk_.2.2⟩))
             clear HO_425002
             have HO_425002 := n_
             clear n_
             have n_ := Aside0.mk (Kd.R_mono (ok' := fun k_ => k_ ≠ gb418 ∧ k_ ≠ gb420) HO_469002.out (fun k_ hk_ => ⟨hk_.1, hk_.2.2⟩))
             clear HO_469002
             have HO_469002 := n_
             clear n_
             (try clear BK419)
             go_upto_region 16 with (first | ((with_reducible refine gate_dst (N := 118) rfl ?_); (try (refine gate_guard (by rfl) ?_; dsimp only)); refine Kd.R_lit k26 _ 26 ?hg (N := 118) ?hd (xs := ([(⟨0, 0, 3, 7⟩ : S26)] : List (S26))) (inner := [.int .i64 0, .int .i64 0, .int .i64 3, .int .i64 7]) (ok := fun _ => True) (okp := fun _ => True) ?hr ?hp (fun _ hk => hk) trivial (Below.refl _ _) (Nat.le_refl _) (by simp) ?_; (case hd => rfl); (case hg => rfl); (case hr => first | (go_simp; done) | (go_simp; rfl)); (case hp => exact (Reps.c4 (show Kd.M k26 _ _ _ (⟨0, 0, 3, 7⟩ : S26) [.int .i64 0, .int .i64 0, .int .i64 3, .int .i64 7] from (k26_mkM _ _ _ (⟨0, 0, 3, 7⟩ : S26) )) (Reps.none _ _))); intro v484 w168 ho169 hb hg_ hnew_; clear hg_ hnew_; (first | rw [← Ny483.out] at ho169 | (simp only [Int.reduceToNat] at ho169; rw [← Ny483.out] at ho169)); have n0_ := Aside0.mk (Kd.R_lower (Kd.R_newB (Kd.R_newB ho169 (zk0 BK418)) (zk0 BK420)) (below_size (by exact zb0 HB))); replace HO_425002 := zr HO_425002 hb; replace HO_469002 := zr HO_469002 hb; replace BK418 := zk BK418 hb; replace BK420 := zk BK420 hb; replace BK424 := zk BK424 hb; replace BK468 := zk BK468 hb; replace HB := zb HB hb; have HO485 := n0_; clear n0_; clear hb ho169; obtain ⟨Ao170, co170, eo170⟩ := Kd.R_slice HO485.out; subst eo170) | ((with_reducible refine gate_callee (f := 29) rfl ?_); refine goesL_ (some 121) rfl rfl Try.func29 (by kernel_rfl) rfl #[.agg #[.int .i64 2, .int .i64 1, .slice Ao15 y421.length co15], .agg #[.int .i64 1, .int .i64 1, .slice Ao170 y483.length co170], .agg #[.int .i64 1, .int .i64 0]] rfl (by (try simp only [List.map_toArray, List.map_cons, List.map_nil]); first | done | rfl | (simp only [List.length_drop, List.length_take]; rfl)) ?_; (with_reducible refine (raster_Put.calls kj134 2 1 _ _ y421 1 1 _ _ y483 1 0 t486 t487 t488 t491 _ ?side1 ?side2 ?side3 ?side4 A157.out).mono ?_); (case side1 => repeat (first | exact (Kd.R_reads' HO_425002.out).2.2 | (with_reducible refine Kd.C_alloc ?_ _) | (with_reducible refine Kd.C_drewN ?_ _) | (with_reducible refine Kd.C_drew ?_))); (case side2 => exact (Kd.R_reads' HO_425002.out).2.1); (case side3 => repeat (first | exact (Kd.R_reads' HO485.out).2.2 | (with_reducible refine Kd.C_alloc ?_ _) | (with_reducible refine Kd.C_drewN ?_ _) | (with_reducible refine Kd.C_drew ?_))); (case side4 => exact (Kd.R_reads' HO485.out).2.1); rintro e w171 ⟨v489, rfl, ho0, hb⟩; refine ⟨_, rfl, ?_⟩; have n0_ := Aside0.mk (Kd.R_lower (Kd.R_newB (Kd.R_newB ho0 (zk0 BK418)) (zk0 BK420)) (below_size (by exact zb0 HB))); replace HO_425002 := zr HO_425002 hb; replace HO_469002 := zr HO_469002 hb; replace HO485 := zr HO485 hb; replace BK418 := zk BK418 hb; replace BK420 := zk BK420 hb; replace BK424 := zk BK424 hb; replace BK468 := zk BK468 hb; replace HB := zb HB hb; have HO490 := n0_; clear n0_; (try clear hb); (try clear hb2); (try clear hk); (try clear hi); (try clear ho0); have hnb172 := NB468_418.out; have hnc172 := NB418_468.out; obtain ⟨hcz173_0, hcz173_1, hcz173_2, hfz173_0, hfz173_1, hfz173_2⟩ := zq3 BK468; obtain ⟨Ao174, co174, eo174⟩ := Kd.R_slice HO490.out; subst eo174))
             (try simp only [Act.put, sA, sB, sC])
             go_cut [140] (fun v140 wc => ∃ (kq : Nat) (x140_157 : Bool), v140 = .bool x140_157 ∧ Aside0 (imageeditorlaw11_awake.j4 kq x140_157 2 1 y421 = some r) ∧ Aside0 (kq ≤ kj134) ∧ Aside0 (Kd.R k26 26 wc w.heap.size (fun k_ => k_ ≠ gb418 ∧ k_ ≠ gb420) (.slice Ao15 y421.length co15) y421) ∧ Aside0 (Kd.R k26 26 wc w.heap.size (fun k_ => k_ ≠ gb418 ∧ k_ ≠ gb420) (.slice Ao174 t488.length co174) t488) ∧ Aside0 (wc.heap[gb418]? = some (.cells #[.int .i64 1, .int .i64 0, .int .i64 0, .int .i64 9] 26 (0, 0))) ∧ Aside0 (wc.heap[gb420]? = some (.cells #[.int .i64 0, .int .i64 0, .int .i64 3, .int .i64 7] 26 (0, 0))) ∧ Aside0 (wc.heap[gb424]? = some (.cells #[.int .i64 2, .int .i64 1, (.slice Ao15 y421.length co15)] 24 (0, 0))) ∧ Aside0 (wc.heap[gb468]? = some (.cells #[.int .i64 t486, .int .i64 t487, (.slice Ao174 t488.length co174)] 24 (0, 0))) ∧ Aside0 (Below w.heap.size w wc))
             case first =>
              have H := HC158.out
              clear HC158
              by_cases c175 : t491 = 0
              ·rw [if_pos c175] at H
               have c175b0 : (t491 == 0) = true := beq_iff_eq.mpr c175
               have c175b1 : (t491 != 0) = false := bne_eq_false_iff_eq.mpr c175
               clear c175
               (first | rw [c175b0] | (simp only [i64_w, i32_w]; rw [c175b0]) | skip)
               obtain ⟨y492, hy492⟩ : ∃ y_ : List (S26), y_ = (([(⟨1, 0, 0, 9⟩ : S26), (⟨0, 0, 3, 7⟩ : S26)] : List (S26))) := ⟨_, rfl⟩
               replace H : ((imageeditorlaw11_same.f kj134 t486 t487 t488 2 1 y492).bind fun t495 => (if t495 = true then ((raster_Box.f kj134 2 1 y421).bind fun bt496 => (imageeditorlaw11_awake.j4 kj134 (!(bt496.1 == 0) || (!(bt496.2.1 == 0) || (!(bt496.2.2.1 == 2) || (!(bt496.2.2.2 == 1))))) 2 1 y421)) else (imageeditorlaw11_awake.j4 kj134 true 2 1 y421))) = some r := by first | (rw [hy492]; with_reducible exact H) | (have H2_ := (Option.bind_some _ _).symm.trans H; rw [hy492]; with_reducible exact H2_) | (have H2_ := (Option.bind_some _ _).symm.trans H; with_reducible exact H2_) | with_reducible exact H | (rw [hy492]; exact H) | exact H
               have Ny492 := Aside0.mk hy492
               clear hy492
               replace H := Option.bind_eq_some_iff.mp H
               obtain ⟨t495, A1760, H⟩ := H
               replace H : (if t495 = true then ((raster_Box.f kj134 2 1 y421).bind fun bt496 => (imageeditorlaw11_awake.j4 kj134 (!(bt496.1 == 0) || (!(bt496.2.1 == 0) || (!(bt496.2.2.1 == 2) || (!(bt496.2.2.2 == 1))))) 2 1 y421)) else (imageeditorlaw11_awake.j4 kj134 true 2 1 y421)) = some r := H
               have A176 := Aside0.mk A1760
               clear A1760
               by_cases c177 : t495 = true
               ·subst c177
                have H1 : ((raster_Box.f kj134 2 1 y421).bind fun bt496 => (imageeditorlaw11_awake.j4 kj134 (!(bt496.1 == 0) || (!(bt496.2.1 == 0) || (!(bt496.2.2.1 == 2) || (!(bt496.2.2.2 == 1))))) 2 1 y421)) = some r := by rw [if_pos rfl] at H; exact H
                clear H
                have H := H1
                clear H1
                replace H := Option.bind_eq_some_iff.mp H
                obtain ⟨⟨t496, t497, t498, t499⟩, A1780, H⟩ := H
                replace H : (imageeditorlaw11_awake.j4 kj134 (!(t496 == 0) || (!(t497 == 0) || (!(t498 == 2) || (!(t499 == 1))))) 2 1 y421) = some r := H
                have A178 := Aside0.mk A1780
                clear A1780
                have H' := Aside0.mk H
                clear H
                obtain ⟨hcz179_0, hcz179_1, hcz179_2, hfz179_0, hfz179_1, hfz179_2⟩ := zq3 BK468
                obtain ⟨hcz180_0, hcz180_1, hcz180_2, hcz180_3, hfz180_0, hfz180_1, hfz180_2, hfz180_3⟩ := zq4 BK418
                obtain ⟨hcz181_0, hcz181_1, hcz181_2, hcz181_3, hfz181_0, hfz181_1, hfz181_2, hfz181_3⟩ := zq4 BK420
                go_wp2_with (first | ((with_reducible refine gate_dst (N := 130) rfl ?_); (try (refine gate_guard (by rfl) ?_; dsimp only)); refine Kd.R_lit k26 _ 26 ?hg (N := 130) ?hd (xs := ([(⟨1, 0, 0, 9⟩ : S26), (⟨0, 0, 3, 7⟩ : S26)] : List (S26))) (inner := [.int .i64 1, .int .i64 0, .int .i64 0, .int .i64 9, .int .i64 0, .int .i64 0, .int .i64 3, .int .i64 7]) (ok := fun _ => True) (okp := fun _ => True) ?hr ?hp (fun _ hk => hk) trivial (Below.refl _ _) (Nat.le_refl _) (by simp) ?_; (case hd => rfl); (case hg => rfl); (case hr => first | (go_simp; done) | (go_simp; rfl)); (case hp => exact (Reps.c4 (show Kd.M k26 _ _ _ (⟨1, 0, 0, 9⟩ : S26) [.int .i64 1, .int .i64 0, .int .i64 0, .int .i64 9] from (k26_mkM _ _ _ (⟨1, 0, 0, 9⟩ : S26) )) (Reps.c4 (show Kd.M k26 _ _ _ (⟨0, 0, 3, 7⟩ : S26) [.int .i64 0, .int .i64 0, .int .i64 3, .int .i64 7] from (k26_mkM _ _ _ (⟨0, 0, 3, 7⟩ : S26) )) (Reps.none _ _)))); intro v493 w182 ho183 hb hg_ hnew_; clear hg_ hnew_; (first | rw [← Ny492.out] at ho183 | (simp only [Int.reduceToNat] at ho183; rw [← Ny492.out] at ho183)); have n0_ := Aside0.mk (Kd.R_below (by exact zro HO_425002 BK468 (by decide)) hb); have n1_ := Aside0.mk (Kd.R_below (by exact zro HO_469002 BK468 (by decide)) hb); have n2_ := Aside0.mk (Kd.R_below (by exact zro HO485 BK468 (by decide)) hb); have n3_ := Aside0.mk (Kd.R_below (by exact zro HO490 BK468 (by decide)) hb); have n4_ := Aside0.mk (Kd.R_lower (Kd.R_newB (Kd.R_newB ho183 (zf BK418 NB418_468)) (zf BK420 NB420_468)) (below_size (by exact zbo HB GE468))); have n5_ := Aside0.mk (blk_below (g := gb468) (o := .cells #[.int .i64 t486, .int .i64 t487, .slice Ao174 t488.length co174] 24 (0, 0)) (by exact zp BK468 rfl) hb); have n6_ := Aside0.mk (below_step (by exact zbo HB GE468) hb); replace BK418 := zfk BK418 NB418_468 hb; replace BK420 := zfk BK420 NB420_468 hb; replace BK424 := zfk BK424 NB424_468 hb; clear HO_425002; clear HO_469002; clear HO485; clear HO490; clear BK468; clear HB; have HO_425002 := n0_; have HO_469002 := n1_; have HO485 := n2_; have HO490 := n3_; have HO494 := n4_; have BK468 := n5_; have HB := n6_; clear n0_ n1_ n2_ n3_ n4_ n5_ n6_; clear hb ho183; obtain ⟨Ao184, co184, eo184⟩ := Kd.R_slice HO494.out; subst eo184; (try clear HO_469002); (try clear HO485)) | (go_at_call 20; (with_reducible refine (imageeditorlaw11_same.calls kj134 t486 t487 _ _ t488 2 1 _ _ y492 true _ ?side1 ?side2 ?side3 ?side4 A176.out).mono ?_); (case side1 => repeat (first | exact (Kd.R_reads' HO490.out).2.2 | (with_reducible refine Kd.C_alloc ?_ _) | (with_reducible refine Kd.C_drewN ?_ _) | (with_reducible refine Kd.C_drew ?_))); (case side2 => exact (Kd.R_reads' HO490.out).2.1); (case side3 => repeat (first | exact (Kd.R_reads' HO494.out).2.2 | (with_reducible refine Kd.C_alloc ?_ _) | (with_reducible refine Kd.C_drewN ?_ _) | (with_reducible refine Kd.C_drew ?_))); (case side4 => exact (Kd.R_reads' HO494.out).2.1); rintro e w185 ⟨rfl, hb⟩; replace HO_425002 := zr HO_425002 hb; replace HO490 := zr HO490 hb; replace HO494 := zr HO494 hb; replace BK418 := zk BK418 hb; replace BK420 := zk BK420 hb; replace BK424 := zk BK424 hb; replace BK468 := zk BK468 hb; replace HB := zb HB hb; (try clear hb); (try clear hb2); (try clear hk); (try clear hi); obtain ⟨hcz186_0, hcz186_1, hcz186_2, hfz186_0, hfz186_1, hfz186_2⟩ := zq3 BK424; (try clear HO494)) | (go_at_call 33; (with_reducible refine (raster_Box.calls kj134 2 1 _ _ y421 t496 t497 t498 t499 _ ?side1 ?side2 A178.out).mono ?_); (case side1 => repeat (first | exact (Kd.R_reads' HO_425002.out).2.2 | (with_reducible refine Kd.C_alloc ?_ _) | (with_reducible refine Kd.C_drewN ?_ _) | (with_reducible refine Kd.C_drew ?_))); (case side2 => exact (Kd.R_reads' HO_425002.out).2.1); rintro e w187 ⟨rfl, hb⟩; replace HO_425002 := zr HO_425002 hb; replace HO490 := zr HO490 hb; replace BK418 := zk BK418 hb; replace BK420 := zk BK420 hb; replace BK424 := zk BK424 hb; replace BK468 := zk BK468 hb; replace HB := zb HB hb; (try clear hb); (try clear hb2); (try clear hk); (try clear hi)))
                go_meet
                case rel => exact ⟨_, ((!(t496 == 0) || (!(t497 == 0) || (!(t498 == 2) || (!(t499 == 1)))))), (by first | rfl | (simp; done) | (simp [*]; done)), H', ⟨by have := HJ2.out; have := HJ86.out; have := HJ110.out; have := HJ134.out; first | omega | exact Nat.le_refl _⟩, ⟨by exact zr0 HO_425002⟩, ⟨by (with_reducible repeat (first | apply Kd.R_alloc | apply Kd.R_drewN | apply Kd.R_drew)); exact Kd.R_mono HO490.out (fun _ hk => ⟨hk.1.2, hk.2⟩)⟩, ⟨by exact zk0 BK418⟩, ⟨by exact zk0 BK420⟩, ⟨by exact zk0 BK424⟩, ⟨by exact zk0 BK468⟩, ⟨by exact zb0 HB⟩⟩
               ·replace c177 := Bool.eq_false_iff.mpr c177
                subst c177
                have H1 : (imageeditorlaw11_awake.j4 kj134 true 2 1 y421) = some r := by rw [if_neg (show ¬ (false = true) by decide)] at H; exact H
                clear H
                have H := H1
                clear H1
                have H' := Aside0.mk H
                clear H
                obtain ⟨hcz188_0, hcz188_1, hcz188_2, hfz188_0, hfz188_1, hfz188_2⟩ := zq3 BK468
                obtain ⟨hcz189_0, hcz189_1, hcz189_2, hcz189_3, hfz189_0, hfz189_1, hfz189_2, hfz189_3⟩ := zq4 BK418
                obtain ⟨hcz190_0, hcz190_1, hcz190_2, hcz190_3, hfz190_0, hfz190_1, hfz190_2, hfz190_3⟩ := zq4 BK420
                go_wp2_with (first | ((with_reducible refine gate_dst (N := 130) rfl ?_); (try (refine gate_guard (by rfl) ?_; dsimp only)); refine Kd.R_lit k26 _ 26 ?hg (N := 130) ?hd (xs := ([(⟨1, 0, 0, 9⟩ : S26), (⟨0, 0, 3, 7⟩ : S26)] : List (S26))) (inner := [.int .i64 1, .int .i64 0, .int .i64 0, .int .i64 9, .int .i64 0, .int .i64 0, .int .i64 3, .int .i64 7]) (ok := fun _ => True) (okp := fun _ => True) ?hr ?hp (fun _ hk => hk) trivial (Below.refl _ _) (Nat.le_refl _) (by simp) ?_; (case hd => rfl); (case hg => rfl); (case hr => first | (go_simp; done) | (go_simp; rfl)); (case hp => exact (Reps.c4 (show Kd.M k26 _ _ _ (⟨1, 0, 0, 9⟩ : S26) [.int .i64 1, .int .i64 0, .int .i64 0, .int .i64 9] from (k26_mkM _ _ _ (⟨1, 0, 0, 9⟩ : S26) )) (Reps.c4 (show Kd.M k26 _ _ _ (⟨0, 0, 3, 7⟩ : S26) [.int .i64 0, .int .i64 0, .int .i64 3, .int .i64 7] from (k26_mkM _ _ _ (⟨0, 0, 3, 7⟩ : S26) )) (Reps.none _ _)))); intro v493 w191 ho192 hb hg_ hnew_; clear hg_ hnew_; (first | rw [← Ny492.out] at ho192 | (simp only [Int.reduceToNat] at ho192; rw [← Ny492.out] at ho192)); have n0_ := Aside0.mk (Kd.R_below (by exact zro HO_425002 BK468 (by decide)) hb); have n1_ := Aside0.mk (Kd.R_below (by exact zro HO_469002 BK468 (by decide)) hb); have n2_ := Aside0.mk (Kd.R_below (by exact zro HO485 BK468 (by decide)) hb); have n3_ := Aside0.mk (Kd.R_below (by exact zro HO490 BK468 (by decide)) hb); have n4_ := Aside0.mk (Kd.R_lower (Kd.R_newB (Kd.R_newB ho192 (zf BK418 NB418_468)) (zf BK420 NB420_468)) (below_size (by exact zbo HB GE468))); have n5_ := Aside0.mk (blk_below (g := gb468) (o := .cells #[.int .i64 t486, .int .i64 t487, .slice Ao174 t488.length co174] 24 (0, 0)) (by exact zp BK468 rfl) hb); have n6_ := Aside0.mk (below_step (by exact zbo HB GE468) hb); replace BK418 := zfk BK418 NB418_468 hb; replace BK420 := zfk BK420 NB420_468 hb; replace BK424 := zfk BK424 NB424_468 hb; clear HO_425002; clear HO_469002; clear HO485; clear HO490; clear BK468; clear HB; have HO_425002 := n0_; have HO_469002 := n1_; have HO485 := n2_; have HO490 := n3_; have HO494 := n4_; have BK468 := n5_; have HB := n6_; clear n0_ n1_ n2_ n3_ n4_ n5_ n6_; clear hb ho192; obtain ⟨Ao193, co193, eo193⟩ := Kd.R_slice HO494.out; subst eo193; (try clear HO_469002); (try clear HO485)) | (go_at_call 20; (with_reducible refine (imageeditorlaw11_same.calls kj134 t486 t487 _ _ t488 2 1 _ _ y492 false _ ?side1 ?side2 ?side3 ?side4 A176.out).mono ?_); (case side1 => repeat (first | exact (Kd.R_reads' HO490.out).2.2 | (with_reducible refine Kd.C_alloc ?_ _) | (with_reducible refine Kd.C_drewN ?_ _) | (with_reducible refine Kd.C_drew ?_))); (case side2 => exact (Kd.R_reads' HO490.out).2.1); (case side3 => repeat (first | exact (Kd.R_reads' HO494.out).2.2 | (with_reducible refine Kd.C_alloc ?_ _) | (with_reducible refine Kd.C_drewN ?_ _) | (with_reducible refine Kd.C_drew ?_))); (case side4 => exact (Kd.R_reads' HO494.out).2.1); rintro e w194 ⟨rfl, hb⟩; replace HO_425002 := zr HO_425002 hb; replace HO490 := zr HO490 hb; replace HO494 := zr HO494 hb; replace BK418 := zk BK418 hb; replace BK420 := zk BK420 hb; replace BK424 := zk BK424 hb; replace BK468 := zk BK468 hb; replace HB := zb HB hb; (try clear hb); (try clear hb2); (try clear hk); (try clear hi)))
                go_meet
                case rel => exact ⟨_, (true), (by first | rfl | (simp; done) | (simp [*]; done)), H', ⟨by have := HJ2.out; have := HJ86.out; have := HJ110.out; have := HJ134.out; first | omega | exact Nat.le_refl _⟩, ⟨by exact zr0 HO_425002⟩, ⟨by (with_reducible repeat (first | apply Kd.R_alloc | apply Kd.R_drewN | apply Kd.R_drew)); exact Kd.R_mono HO490.out (fun _ hk => ⟨hk.1.2, hk.2⟩)⟩, ⟨by exact zk0 BK418⟩, ⟨by exact zk0 BK420⟩, ⟨by exact zk0 BK424⟩, ⟨by exact zk0 BK468⟩, ⟨by exact zb0 HB⟩⟩
              ·rw [if_neg c175] at H
               have c175b0 : (t491 == 0) = false := beq_eq_false_iff_ne.mpr c175
               have c175b1 : (t491 != 0) = true := bne_iff_ne.mpr c175
               (first | rw [c175b0] | (simp only [i64_w, i32_w]; rw [c175b0]) | skip)
               have H' := Aside0.mk H
               clear H
               go_wp2
               go_meet
               case rel => exact ⟨_, (true), (by first | rfl | (simp; done) | (simp [*]; done)), H', ⟨by have := HJ2.out; have := HJ86.out; have := HJ110.out; have := HJ134.out; first | omega | exact Nat.le_refl _⟩, ⟨by exact zro HO_425002 BK468 (by decide)⟩, ⟨by (with_reducible repeat (first | apply Kd.R_alloc | apply Kd.R_drewN | apply Kd.R_drew)); exact Kd.R_mono (Kd.R_far (p := ⟨gb468, 2, none⟩) (Kd.R_far (p := ⟨gb468, 1, none⟩) (Kd.R_far (p := ⟨gb468, 0, none⟩) (Kd.R_types HO490.out BK468.out (by decide)) (fun _ hk => hk.2) (.int .i64 t486)) (fun _ hk => hk.2) (.int .i64 t487)) (fun _ hk => hk.2) (.slice Ao174 t488.length co174)) (fun _ hk => ⟨hk.1.1.2, hk.1.2⟩)⟩, ⟨by exact zf BK418 NB418_468⟩, ⟨by exact zf BK420 NB420_468⟩, ⟨by exact zf BK424 NB424_468⟩, ⟨by exact zp BK468 rfl⟩, ⟨by exact zbo HB GE468⟩⟩
             case rest =>
              clear HC158
              try clear c1
              try clear c2
              try clear p2
              try clear c3
              try clear q3
              try clear c4
              try clear q4
              try clear c9
              try clear c10
              try clear c11
              try clear c12
              try clear c13
              try clear c14
              try clear c15
              try clear c16
              try clear c17
              try clear c21
              try clear c23
              try clear c27
              try clear c29
              try clear c31
              try clear c93
              try clear c93b0
              try clear c98
              try clear c98b0
              try clear c109
              try clear c112
              try clear c113
              try clear c114
              try clear c115
              try clear c119
              try clear c120
              try clear c121
              try clear c122
              try clear c125
              try clear c125b0
              try clear c125b1
              try clear c133
              try clear c136
              try clear c137
              try clear c138
              try clear c139
              try clear c142
              try clear c143
              try clear c144
              try clear c147
              try clear c147b0
              try clear c147b1
              try clear c156
              try clear c159
              try clear c160
              try clear c161
              try clear c162
              try clear c164
              try clear c165
              try clear c166
              try clear c172
              try clear c175
              try clear c175b0
              try clear c175b1
              try clear c177
              try clear hcz116_0
              try clear hcz116_1
              try clear hcz116_2
              try clear hcz123_0
              try clear hcz123_1
              try clear hcz123_2
              try clear hcz127_0
              try clear hcz127_1
              try clear hcz127_2
              try clear hcz128_0
              try clear hcz128_1
              try clear hcz128_2
              try clear hcz128_3
              try clear hcz140_0
              try clear hcz140_1
              try clear hcz140_2
              try clear hcz145_0
              try clear hcz145_1
              try clear hcz145_2
              try clear hcz149_0
              try clear hcz149_1
              try clear hcz149_2
              try clear hcz150_0
              try clear hcz150_1
              try clear hcz150_2
              try clear hcz150_3
              try clear hcz151_0
              try clear hcz151_1
              try clear hcz151_2
              try clear hcz151_3
              try clear hcz163_0
              try clear hcz163_1
              try clear hcz163_2
              try clear hcz167_0
              try clear hcz167_1
              try clear hcz167_2
              try clear hcz167_3
              try clear hcz173_0
              try clear hcz173_1
              try clear hcz173_2
              try clear hcz179_0
              try clear hcz179_1
              try clear hcz179_2
              try clear hcz180_0
              try clear hcz180_1
              try clear hcz180_2
              try clear hcz180_3
              try clear hcz181_0
              try clear hcz181_1
              try clear hcz181_2
              try clear hcz181_3
              try clear hcz186_0
              try clear hcz186_1
              try clear hcz186_2
              try clear hcz188_0
              try clear hcz188_1
              try clear hcz188_2
              try clear hcz189_0
              try clear hcz189_1
              try clear hcz189_2
              try clear hcz189_3
              try clear hcz190_0
              try clear hcz190_1
              try clear hcz190_2
              try clear hcz190_3
              try clear hfz116_0
              try clear hfz116_1
              try clear hfz116_2
              try clear hfz123_0
              try clear hfz123_1
              try clear hfz123_2
              try clear hfz127_0
              try clear hfz127_1
              try clear hfz127_2
              try clear hfz128_0
              try clear hfz128_1
              try clear hfz128_2
              try clear hfz128_3
              try clear hfz140_0
              try clear hfz140_1
              try clear hfz140_2
              try clear hfz145_0
              try clear hfz145_1
              try clear hfz145_2
              try clear hfz149_0
              try clear hfz149_1
              try clear hfz149_2
              try clear hfz150_0
              try clear hfz150_1
              try clear hfz150_2
              try clear hfz150_3
              try clear hfz151_0
              try clear hfz151_1
              try clear hfz151_2
              try clear hfz151_3
              try clear hfz163_0
              try clear hfz163_1
              try clear hfz163_2
              try clear hfz167_0
              try clear hfz167_1
              try clear hfz167_2
              try clear hfz167_3
              try clear hfz173_0
              try clear hfz173_1
              try clear hfz173_2
              try clear hfz179_0
              try clear hfz179_1
              try clear hfz179_2
              try clear hfz180_0
              try clear hfz180_1
              try clear hfz180_2
              try clear hfz180_3
              try clear hfz181_0
              try clear hfz181_1
              try clear hfz181_2
              try clear hfz181_3
              try clear hfz186_0
              try clear hfz186_1
              try clear hfz186_2
              try clear hfz188_0
              try clear hfz188_1
              try clear hfz188_2
              try clear hfz189_0
              try clear hfz189_1
              try clear hfz189_2
              try clear hfz189_3
              try clear hfz190_0
              try clear hfz190_1
              try clear hfz190_2
              try clear hfz190_3
              try clear p2
              try clear q3
              try clear q4
              obtain ⟨kq, x140_157, rfl, HA, HJ157, HO_425002, HO_469002, BK418, BK420, BK424, BK468, HB⟩ := hcut
              cases kq with
              | zero => exact absurd HA.out (by simp [imageeditorlaw11_awake.j4])
              | succ kj157 =>
               have H := HA.out
               clear HA
               simp only [imageeditorlaw11_awake.j4] at H
               by_cases c195 : x140_157 = true
               ·subst c195
                have H1 : (some false) = some r := by rw [if_pos rfl] at H; exact H
                clear H
                have H := H1
                clear H1
                exact absurd HT.out (by rw [← Option.some.inj H]; decide)
               ·replace c195 := Bool.eq_false_iff.mpr c195
                subst c195
                have H1 : ((raster_Join.f kj157 2 1 (([(⟨2, 1, y421⟩ : S24)] : List (S24)))).bind fun bt503 => (if bt503.2.2.2 = 0 then ((imageeditorlaw11_same.f kj157 bt503.1 bt503.2.1 bt503.2.2.1 2 1 y421).bind fun t509 => (some t509)) else (some false))) = some r := by rw [if_neg (show ¬ (false = true) by decide)] at H; exact H
                clear H
                have H := H1
                clear H1
                obtain ⟨y500, hy500⟩ : ∃ y_ : List (S24), y_ = (([(⟨2, 1, y421⟩ : S24)] : List (S24))) := ⟨_, rfl⟩
                replace H : ((raster_Join.f kj157 2 1 y500).bind fun bt503 => (if bt503.2.2.2 = 0 then ((imageeditorlaw11_same.f kj157 bt503.1 bt503.2.1 bt503.2.2.1 2 1 y421).bind fun t509 => (some t509)) else (some false))) = some r := by first | (rw [hy500]; with_reducible exact H) | (have H2_ := (Option.bind_some _ _).symm.trans H; rw [hy500]; with_reducible exact H2_) | (have H2_ := (Option.bind_some _ _).symm.trans H; with_reducible exact H2_) | with_reducible exact H | (rw [hy500]; exact H) | exact H
                have Ny500 := Aside0.mk hy500
                clear hy500
                replace H := Option.bind_eq_some_iff.mp H
                obtain ⟨⟨t503, t504, t505, t508⟩, A1960, H⟩ := H
                replace H : (if t508 = 0 then ((imageeditorlaw11_same.f kj157 t503 t504 t505 2 1 y421).bind fun t509 => (some t509)) else (some false)) = some r := H
                have A196 := Aside0.mk A1960
                clear A1960
                by_cases c197 : t508 = 0
                ·rw [if_pos c197] at H
                 have c197b0 : (t508 == 0) = true := beq_iff_eq.mpr c197
                 have c197b1 : (t508 != 0) = false := bne_eq_false_iff_eq.mpr c197
                 clear c197
                 replace H := Option.bind_eq_some_iff.mp H
                 obtain ⟨t509, A1980, H⟩ := H
                 replace H : (some t509) = some r := H
                 have A198 := Aside0.mk A1980
                 clear A1980
                 obtain rfl := Option.some.inj H
                 have hnb199 := NB424_418.out
                 have hnc199 := NB418_424.out
                 have hnb200 := NB424_420.out
                 have hnc200 := NB420_424.out
                 have hnb201 := NB424_468.out
                 have hnc201 := NB468_424.out
                 obtain ⟨hcz202_0, hcz202_1, hcz202_2, hfz202_0, hfz202_1, hfz202_2⟩ := zq3 BK424
                 have n_ := Aside0.mk (Kd.R_mono (ok' := fun k_ => True) HO_425002.out (fun k_ hk_ => trivial))
                 clear HO_425002
                 have HO_425002 := n_
                 clear n_
                 have n_ := Aside0.mk (Kd.R_mono (ok' := fun k_ => True) HO_469002.out (fun k_ hk_ => trivial))
                 clear HO_469002
                 have HO_469002 := n_
                 clear n_
                 (try clear BK418)
                 (try clear BK420)
                 go_wp2_with (first | ((with_reducible refine gate_dst (N := 143) rfl ?_); (try (refine gate_guard (by rfl) ?_; dsimp only)); refine Kd.N_lit k24 _ 24 ?hg (N' := 143) ?hd (xs := ([(⟨2, 1, y421⟩ : S24)] : List (S24))) (inner := [.int .i64 2, .int .i64 1, .slice Ao15 y421.length co15]) (ok := (fun k_ => k_ ≠ gb424 ∧ k_ ≠ gb468)) (okp := (fun k_ => k_ ≠ gb424 ∧ k_ ≠ gb468)) ?hr ?hp (fun _ hk => hk) ((show ∀ k_, wc.heap.size ≤ k_ → (fun k_ => k_ ≠ gb424 ∧ k_ ≠ gb468) k_ from fun k_ hk => ⟨Kd.freshB (zk0 BK424) k_ hk, Kd.freshB (zk0 BK468) k_ hk⟩) _ (Nat.le_refl _)) (Below.refl _ _) (Nat.le_refl _) (by simp) ?_; (case hd => rfl); (case hg => rfl); (case hr => first | (go_simp; done) | (go_simp; rfl)); (case hp => exact (Reps.c3 (show Kd.FK k24 _ _ (⟨2, 1, y421⟩ : S24) [.int .i64 2, .int .i64 1, .slice Ao15 y421.length co15] from (k24_mkF _ _ (⟨2, 1, y421⟩ : S24) (Kd.R_reads' (Kd.R_mono (ok' := (fun k_ => k_ ≠ gb424 ∧ k_ ≠ gb468)) (Kd.R_types (Kd.R_types (HO_425002.out) BK424.out (by decide)) BK468.out (by decide)) (fun k_ hk => ⟨hk.1.2, hk.2⟩))).2.1 (Kd.R_F (Kd.R_mono (ok' := (fun k_ => k_ ≠ gb424 ∧ k_ ≠ gb468)) (Kd.R_types (Kd.R_types (HO_425002.out) BK424.out (by decide)) BK468.out (by decide)) (fun k_ hk => ⟨hk.1.2, hk.2⟩))))) (Reps.none _ _))); intro v501 w203 ho204 hb hg_ hnew_; clear hg_ hnew_; (first | rw [← Ny500.out] at ho204 | (simp only [Int.reduceToNat] at ho204; rw [← Ny500.out] at ho204)); have n0_ := Aside0.mk (Kd.N_lower ho204 (below_size (by exact zb0 HB))); replace HO_425002 := zr HO_425002 hb; replace HO_469002 := zr HO_469002 hb; replace BK424 := zk BK424 hb; replace BK468 := zk BK468 hb; replace HB := zb HB hb; have HO502 := n0_; clear n0_; clear hb ho204; obtain ⟨Ao205, co205, eo205⟩ := Kd.N_slice HO502.out; subst eo205) | ((with_reducible refine gate_callee (f := 35) rfl ?_); refine goesL_ (some 144) rfl rfl Try.func35 (by kernel_rfl) rfl #[.int .i64 2, .int .i64 1, .slice Ao205 y500.length co205] rfl (by (try simp only [List.map_toArray, List.map_cons, List.map_nil]); first | done | rfl | (simp only [List.length_drop, List.length_take]; rfl)) ?_; (with_reducible refine (raster_Join.calls kj157 2 1 _ _ y500 t503 t504 t505 t508 _ ?side1 ?side2 A196.out).mono ?_); (case side1 => repeat (first | exact (Kd.N_reads' HO502.out).2.2 | (with_reducible refine Kd.C_alloc ?_ _) | (with_reducible refine Kd.C_drewN ?_ _) | (with_reducible refine Kd.C_drew ?_))); (case side2 => exact (Kd.N_reads' HO502.out).2.1); rintro e w206 ⟨v506, rfl, ho0, hb⟩; refine ⟨_, rfl, ?_⟩; have HO507 := zl HB ho0; have n0_ := Aside0.mk (Kd.N_below (by (with_reducible repeat (first | apply Kd.N_alloc | apply Kd.N_drewN | apply Kd.N_drew)); exact HO502.out) hb); replace HO_425002 := zr HO_425002 hb; replace HO_469002 := zr HO_469002 hb; replace BK424 := zk BK424 hb; replace BK468 := zk BK468 hb; replace HB := zb HB hb; clear HO502; have HO502 := n0_; clear n0_; (try clear hb); (try clear hb2); (try clear hk); (try clear hi); (try clear ho0); obtain ⟨hcz207_0, hcz207_1, hcz207_2, hfz207_0, hfz207_1, hfz207_2⟩ := zq3 BK468; obtain ⟨Ao208, co208, eo208⟩ := Kd.R_slice HO507.out; subst eo208; obtain ⟨hcz209_0, hcz209_1, hcz209_2, hfz209_0, hfz209_1, hfz209_2⟩ := zq3 BK424) | (go_at_call 20; (with_reducible refine (imageeditorlaw11_same.calls kj157 t503 t504 _ _ t505 2 1 _ _ y421 t509 _ ?side1 ?side2 ?side3 ?side4 A198.out).mono ?_); (case side1 => refine (Kd.R_reads' (e := 26) (base := w.heap.size) (ok := fun k_ => True) (n := t505.length) (c := co208) ?_).2.2; exact (by exact zro HO507 BK468 (by decide))); (case side2 => exact (Kd.R_reads' HO507.out).2.1); (case side3 => refine (Kd.R_reads' (e := 26) (base := w.heap.size) (ok := fun k_ => True) (n := y421.length) (c := co15) ?_).2.2; exact (by exact zro HO_425002 BK468 (by decide))); (case side4 => exact (Kd.R_reads' HO_425002.out).2.1); rintro e w210 ⟨rfl, hb⟩; have n0_ := Aside0.mk (Kd.R_below (by exact zro HO_425002 BK468 (by decide)) hb); have n1_ := Aside0.mk (Kd.R_below (by exact zro HO_469002 BK468 (by decide)) hb); have n2_ := Aside0.mk (Kd.N_below (by (with_reducible repeat (first | apply Kd.N_alloc | apply Kd.N_drewN | apply Kd.N_drew)); exact (Kd.N_mono (Kd.N_far (p := ⟨gb468, 2, none⟩) (Kd.N_far (p := ⟨gb468, 1, none⟩) (Kd.N_far (p := ⟨gb468, 0, none⟩) (Kd.N_mono HO502.out (fun k_ hk => (⟨hk, hk.2⟩ : _ ∧ k_ ≠ gb468))) (fun _ hk => hk.2) (.int .i64 t503)) (fun _ hk => hk.2) (.int .i64 t504)) (fun _ hk => hk.2) (.slice Ao208 t505.length co208)) (fun _ h_ => h_.1))) hb); have n3_ := Aside0.mk (Kd.R_below (by exact zro HO507 BK468 (by decide)) hb); have n4_ := Aside0.mk (blk_below (g := gb468) (o := .cells #[.int .i64 t503, .int .i64 t504, .slice Ao208 t505.length co208] 24 (0, 0)) (by exact zp BK468 rfl) hb); have n5_ := Aside0.mk (below_step (by exact zbo HB GE468) hb); replace BK424 := zfk BK424 NB424_468 hb; clear HO_425002; clear HO_469002; clear HO502; clear HO507; clear BK468; clear HB; have HO_425002 := n0_; have HO_469002 := n1_; have HO502 := n2_; have HO507 := n3_; have BK468 := n4_; have HB := n5_; clear n0_ n1_ n2_ n3_ n4_ n5_; (try clear hb); (try clear hb2); (try clear hk); (try clear hi)))
                 go_ret
                 exact ⟨by first | rfl | (simp [errW_none, errW_some] <;> rfl) | (simp [*, errW_none, errW_some] <;> rfl), by exact zb0 HB⟩
                ·rw [if_neg c197] at H
                 have c197b0 : (t508 == 0) = false := beq_eq_false_iff_ne.mpr c197
                 have c197b1 : (t508 != 0) = true := bne_iff_ne.mpr c197
                 exact absurd HT.out (by rw [← Option.some.inj H]; decide)
set_option maxRecDepth 100000 in
theorem imageeditorlaw11_awake.known : imageeditorlaw11_awake.f 300 = some true := by decide +kernel
theorem imageeditorlaw11_awake.more (k : Nat) (r : Bool) (h : imageeditorlaw11_awake.f k = some r) : ∀ m, imageeditorlaw11_awake.f (k + m) = some r
 | 0 => h
 | m + 1 => imageeditorlaw11_awake.mono (k + m) r (imageeditorlaw11_awake.more k r h m)
theorem imageeditorlaw11_awake.det (k : Nat) (r : Bool) (h : imageeditorlaw11_awake.f k = some r) : r = true := by
 have h1 := imageeditorlaw11_awake.more k r h 300
 have h2 := imageeditorlaw11_awake.more 300 true imageeditorlaw11_awake.known k
 rw [Nat.add_comm] at h1
 exact Option.some.inj (h1.symm.trans h2)
theorem imageeditorlaw11_awake.calls (k : Nat) (r : Bool) (w : World) (h : imageeditorlaw11_awake.f k = some r) :
  Calls Try.prog 17 #[] w fun e w' => e = .returned (.bool r) ∧ Below w.heap.size w w' :=
 imageeditorlaw11_awake.callsT k r w (imageeditorlaw11_awake.det k r h) h

end Go.Proofs.Ytjepbimgddgijaa.G
