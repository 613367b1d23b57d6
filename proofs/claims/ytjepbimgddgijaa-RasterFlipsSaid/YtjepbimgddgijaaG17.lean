/- Contracts of functions of the program, each as it is called: what it computes (.f), that it computes no less with more rounds (.mono), and that a call returns just that (.calls). No conditions but those that each contract names. Written by a program of this session (wip/gx.py over the kit's print). -/
import Derived.Test.YtjepbimgddgijaaG0
import Derived.Test.YtjepbimgddgijaaG2
import Derived.Test.YtjepbimgddgijaaG11
import Derived.Test.YtjepbimgddgijaaG14
namespace Go.Proofs.Ytjepbimgddgijaa.G
open Go.RowKit Go.Proofs.YtjepbimgddgijaaW.PrintWords Go.Proofs.YtjepbimgddgijaaW.PrintLast Go.Proofs.YtjepbimgddgijaaW.PrintMore
attribute [local go_sem] max2_int min2_int max_two min_two max_three min_three max_four min_four   -- for this text's walks alone
set_option linter.unusedVariables false
set_option linter.unusedSimpArgs false


/-! ### imageeditorref11_Flip: function 32 -/
mutual
def imageeditorref11_Flip.j0 : Nat → Int → Bool → Int → Int → List (S26) → Option (Int × Int × (List (S26)) × Int)
 | 0, _, _, _, _, _ => none
 | k + 1, x1, x22, x664000, x664001, x664002 => if x22 = true then (some (0, 0, ([] : List (S26)), 8)) else (if x1 = 3 then (imageeditorref11_Flip.j1 k x1 x664000 x664001 x664002 x664001 x664000) else (imageeditorref11_Flip.j1 k x1 x664000 x664001 x664002 x664000 x664001))
def imageeditorref11_Flip.j1 : Nat → Int → Int → Int → List (S26) → Int → Int → Option (Int × Int × (List (S26)) × Int)
 | 0, _, _, _, _, _, _ => none
 | k + 1, x1, x664000, x664001, x664002, x667000, x667001 => imageeditorref11_Flip.l0 k x1 0 x664000 x664001 x664002 x667000 x667001 ([] : List (S26))
def imageeditorref11_Flip.l0 : Nat → Int → Int → Int → Int → List (S26) → Int → Int → List (S26) → Option (Int × Int × (List (S26)) × Int)
 | 0, _, _, _, _, _, _, _, _ => none
 | k + 1, x1, x8, x664000, x664001, x664002, x667000, x667001, x667002 => if x8 < x667001 then (imageeditorref11_Flip.l1 k x1 x8 0 x664000 x664001 x664002 x667000 x667001 x667002) else (some (x667000, x667001, x667002, 0))
def imageeditorref11_Flip.l1 : Nat → Int → Int → Int → Int → Int → List (S26) → Int → Int → List (S26) → Option (Int × Int × (List (S26)) × Int)
 | 0, _, _, _, _, _, _, _, _, _ => none
 | k + 1, x1, x8, x9, x664000, x664001, x664002, x667000, x667001, x667002 => if x9 < x667000 then (if x1 = 1 then ((imageeditorref11_Pick.f x664000 x664001 x664002 (wrap64 ((wrap64 (x664000 - 1)) - x9)) x8).bind fun bt668 => (imageeditorref11_Flip.j4 k x1 x8 x9 x664000 x664001 x664002 x667000 x667001 x667002 bt668.1 bt668.2.1 bt668.2.2.1 bt668.2.2.2)) else (imageeditorref11_Flip.j4 k x1 x8 x9 x664000 x664001 x664002 x667000 x667001 x667002 0 0 0 0)) else (imageeditorref11_Flip.l0 k x1 (wrap64 (x8 + 1)) x664000 x664001 x664002 x667000 x667001 x667002)
def imageeditorref11_Flip.j4 : Nat → Int → Int → Int → Int → Int → List (S26) → Int → Int → List (S26) → Int → Int → Int → Int → Option (Int × Int × (List (S26)) × Int)
 | 0, _, _, _, _, _, _, _, _, _, _, _, _, _ => none
 | k + 1, x1, x8, x9, x664000, x664001, x664002, x667000, x667001, x667002, x668000, x668001, x668002, x668003 => if x1 = 2 then ((imageeditorref11_Pick.f x664000 x664001 x664002 x9 (wrap64 ((wrap64 (x664001 - 1)) - x8))).bind fun bt672 => (imageeditorref11_Flip.j5 k x1 x8 x9 x664000 x664001 x664002 x667000 x667001 x667002 bt672.1 bt672.2.1 bt672.2.2.1 bt672.2.2.2)) else (imageeditorref11_Flip.j5 k x1 x8 x9 x664000 x664001 x664002 x667000 x667001 x667002 x668000 x668001 x668002 x668003)
def imageeditorref11_Flip.j5 : Nat → Int → Int → Int → Int → Int → List (S26) → Int → Int → List (S26) → Int → Int → Int → Int → Option (Int × Int × (List (S26)) × Int)
 | 0, _, _, _, _, _, _, _, _, _, _, _, _, _ => none
 | k + 1, x1, x8, x9, x664000, x664001, x664002, x667000, x667001, x667002, x668000, x668001, x668002, x668003 => if x1 = 3 then ((imageeditorref11_Pick.f x664000 x664001 x664002 x8 x9).bind fun bt676 => (if x1 = 4 then ((imageeditorref11_Pick.f x664000 x664001 x664002 (wrap64 ((wrap64 (x664000 - 1)) - x9)) (wrap64 ((wrap64 (x664001 - 1)) - x8))).bind fun bt680 => (if x667002.length < 4398046511104 then (imageeditorref11_Flip.l1 k x1 x8 (wrap64 (x9 + 1)) x664000 x664001 x664002 x667000 x667001 (x667002 ++ [(⟨bt680.1, bt680.2.1, bt680.2.2.1, bt680.2.2.2⟩ : S26)])) else (none))) else (if x667002.length < 4398046511104 then (imageeditorref11_Flip.l1 k x1 x8 (wrap64 (x9 + 1)) x664000 x664001 x664002 x667000 x667001 (x667002 ++ [(⟨bt676.1, bt676.2.1, bt676.2.2.1, bt676.2.2.2⟩ : S26)])) else (none)))) else (if x1 = 4 then ((imageeditorref11_Pick.f x664000 x664001 x664002 (wrap64 ((wrap64 (x664000 - 1)) - x9)) (wrap64 ((wrap64 (x664001 - 1)) - x8))).bind fun bt690 => (if x667002.length < 4398046511104 then (imageeditorref11_Flip.l1 k x1 x8 (wrap64 (x9 + 1)) x664000 x664001 x664002 x667000 x667001 (x667002 ++ [(⟨bt690.1, bt690.2.1, bt690.2.2.1, bt690.2.2.2⟩ : S26)])) else (none))) else (if x667002.length < 4398046511104 then (imageeditorref11_Flip.l1 k x1 x8 (wrap64 (x9 + 1)) x664000 x664001 x664002 x667000 x667001 (x667002 ++ [(⟨x668000, x668001, x668002, x668003⟩ : S26)])) else (none)))
end
def imageeditorref11_Flip.f (k : Nat) (a0_0 : Int) (a0_1 : Int) (l0_2 : List (S26)) (a1 : Int) : Option (Int × Int × (List (S26)) × Int) := (imageeditorref11_Check.f k a0_0 a0_1 l0_2).bind fun t665 => (if t665 = 0 then (if a1 < 1 then (imageeditorref11_Flip.j0 k a1 true a0_0 a0_1 l0_2) else (imageeditorref11_Flip.j0 k a1 (decide (a1 > 4)) a0_0 a0_1 l0_2)) else (some (0, 0, ([] : List (S26)), t665)))
theorem imageeditorref11_Flip.mono_l : ∀ k, (∀ y0 y1 y2 y3 y4, LeO (imageeditorref11_Flip.j0 k y0 y1 y2 y3 y4) (imageeditorref11_Flip.j0 (k + 1) y0 y1 y2 y3 y4)) ∧ (∀ y0 y1 y2 y3 y4 y5, LeO (imageeditorref11_Flip.j1 k y0 y1 y2 y3 y4 y5) (imageeditorref11_Flip.j1 (k + 1) y0 y1 y2 y3 y4 y5)) ∧ (∀ y0 y1 y2 y3 y4 y5 y6 y7, LeO (imageeditorref11_Flip.l0 k y0 y1 y2 y3 y4 y5 y6 y7) (imageeditorref11_Flip.l0 (k + 1) y0 y1 y2 y3 y4 y5 y6 y7)) ∧ (∀ y0 y1 y2 y3 y4 y5 y6 y7 y8, LeO (imageeditorref11_Flip.l1 k y0 y1 y2 y3 y4 y5 y6 y7 y8) (imageeditorref11_Flip.l1 (k + 1) y0 y1 y2 y3 y4 y5 y6 y7 y8)) ∧ (∀ y0 y1 y2 y3 y4 y5 y6 y7 y8 y9 y10 y11 y12, LeO (imageeditorref11_Flip.j4 k y0 y1 y2 y3 y4 y5 y6 y7 y8 y9 y10 y11 y12) (imageeditorref11_Flip.j4 (k + 1) y0 y1 y2 y3 y4 y5 y6 y7 y8 y9 y10 y11 y12)) ∧ (∀ y0 y1 y2 y3 y4 y5 y6 y7 y8 y9 y10 y11 y12, LeO (imageeditorref11_Flip.j5 k y0 y1 y2 y3 y4 y5 y6 y7 y8 y9 y10 y11 y12) (imageeditorref11_Flip.j5 (k + 1) y0 y1 y2 y3 y4 y5 y6 y7 y8 y9 y10 y11 y12))
 | 0 => ⟨fun _ _ _ _ _ r h => by simp [imageeditorref11_Flip.j0] at h, fun _ _ _ _ _ _ r h => by simp [imageeditorref11_Flip.j1] at h, fun _ _ _ _ _ _ _ _ r h => by simp [imageeditorref11_Flip.l0] at h, fun _ _ _ _ _ _ _ _ _ r h => by simp [imageeditorref11_Flip.l1] at h, fun _ _ _ _ _ _ _ _ _ _ _ _ _ r h => by simp [imageeditorref11_Flip.j4] at h, fun _ _ _ _ _ _ _ _ _ _ _ _ _ r h => by simp [imageeditorref11_Flip.j5] at h⟩
 | k + 1 => by
  obtain ⟨ih0, ih1, ih2, ih3, ih4, ih5⟩ := imageeditorref11_Flip.mono_l k
  refine ⟨?_, ?_, ?_, ?_, ?_, ?_⟩
  ·intro y0 y1 y2 y3 y4
   unfold imageeditorref11_Flip.j0
   repeat' first
   | (with_reducible exact ih0 _ _ _ _ _)
   | (with_reducible exact ih1 _ _ _ _ _ _)
   | (with_reducible exact ih2 _ _ _ _ _ _ _ _)
   | (with_reducible exact ih3 _ _ _ _ _ _ _ _ _)
   | (with_reducible exact ih4 _ _ _ _ _ _ _ _ _ _ _ _ _)
   | (with_reducible exact ih5 _ _ _ _ _ _ _ _ _ _ _ _ _)
   | (with_reducible exact imageeditorref11_Check.mono _ _ _ _)
   | (with_reducible exact LeO.refl _)
   | (with_reducible exact LeO.none _)
   | (with_reducible refine LeO.ite ?_ ?_)
   | (with_reducible refine LeO.bind ?_ (fun _ => ?_))
   | exact ih0 _ _ _ _ _
   | exact ih1 _ _ _ _ _ _
   | exact ih2 _ _ _ _ _ _ _ _
   | exact ih3 _ _ _ _ _ _ _ _ _
   | exact ih4 _ _ _ _ _ _ _ _ _ _ _ _ _
   | exact ih5 _ _ _ _ _ _ _ _ _ _ _ _ _
   | exact imageeditorref11_Check.mono _ _ _ _
   | exact LeO.none _
   | refine LeO.ite ?_ ?_
   | refine LeO.bind ?_ (fun _ => ?_)
  ·intro y0 y1 y2 y3 y4 y5
   unfold imageeditorref11_Flip.j1
   repeat' first
   | (with_reducible exact ih0 _ _ _ _ _)
   | (with_reducible exact ih1 _ _ _ _ _ _)
   | (with_reducible exact ih2 _ _ _ _ _ _ _ _)
   | (with_reducible exact ih3 _ _ _ _ _ _ _ _ _)
   | (with_reducible exact ih4 _ _ _ _ _ _ _ _ _ _ _ _ _)
   | (with_reducible exact ih5 _ _ _ _ _ _ _ _ _ _ _ _ _)
   | (with_reducible exact imageeditorref11_Check.mono _ _ _ _)
   | (with_reducible exact LeO.refl _)
   | (with_reducible exact LeO.none _)
   | (with_reducible refine LeO.ite ?_ ?_)
   | (with_reducible refine LeO.bind ?_ (fun _ => ?_))
   | exact ih0 _ _ _ _ _
   | exact ih1 _ _ _ _ _ _
   | exact ih2 _ _ _ _ _ _ _ _
   | exact ih3 _ _ _ _ _ _ _ _ _
   | exact ih4 _ _ _ _ _ _ _ _ _ _ _ _ _
   | exact ih5 _ _ _ _ _ _ _ _ _ _ _ _ _
   | exact imageeditorref11_Check.mono _ _ _ _
   | exact LeO.none _
   | refine LeO.ite ?_ ?_
   | refine LeO.bind ?_ (fun _ => ?_)
  ·intro y0 y1 y2 y3 y4 y5 y6 y7
   unfold imageeditorref11_Flip.l0
   repeat' first
   | (with_reducible exact ih0 _ _ _ _ _)
   | (with_reducible exact ih1 _ _ _ _ _ _)
   | (with_reducible exact ih2 _ _ _ _ _ _ _ _)
   | (with_reducible exact ih3 _ _ _ _ _ _ _ _ _)
   | (with_reducible exact ih4 _ _ _ _ _ _ _ _ _ _ _ _ _)
   | (with_reducible exact ih5 _ _ _ _ _ _ _ _ _ _ _ _ _)
   | (with_reducible exact imageeditorref11_Check.mono _ _ _ _)
   | (with_reducible exact LeO.refl _)
   | (with_reducible exact LeO.none _)
   | (with_reducible refine LeO.ite ?_ ?_)
   | (with_reducible refine LeO.bind ?_ (fun _ => ?_))
   | exact ih0 _ _ _ _ _
   | exact ih1 _ _ _ _ _ _
   | exact ih2 _ _ _ _ _ _ _ _
   | exact ih3 _ _ _ _ _ _ _ _ _
   | exact ih4 _ _ _ _ _ _ _ _ _ _ _ _ _
   | exact ih5 _ _ _ _ _ _ _ _ _ _ _ _ _
   | exact imageeditorref11_Check.mono _ _ _ _
   | exact LeO.none _
   | refine LeO.ite ?_ ?_
   | refine LeO.bind ?_ (fun _ => ?_)
  ·intro y0 y1 y2 y3 y4 y5 y6 y7 y8
   unfold imageeditorref11_Flip.l1
   repeat' first
   | (with_reducible exact ih0 _ _ _ _ _)
   | (with_reducible exact ih1 _ _ _ _ _ _)
   | (with_reducible exact ih2 _ _ _ _ _ _ _ _)
   | (with_reducible exact ih3 _ _ _ _ _ _ _ _ _)
   | (with_reducible exact ih4 _ _ _ _ _ _ _ _ _ _ _ _ _)
   | (with_reducible exact ih5 _ _ _ _ _ _ _ _ _ _ _ _ _)
   | (with_reducible exact imageeditorref11_Check.mono _ _ _ _)
   | (with_reducible exact LeO.refl _)
   | (with_reducible exact LeO.none _)
   | (with_reducible refine LeO.ite ?_ ?_)
   | (with_reducible refine LeO.bind ?_ (fun _ => ?_))
   | exact ih0 _ _ _ _ _
   | exact ih1 _ _ _ _ _ _
   | exact ih2 _ _ _ _ _ _ _ _
   | exact ih3 _ _ _ _ _ _ _ _ _
   | exact ih4 _ _ _ _ _ _ _ _ _ _ _ _ _
   | exact ih5 _ _ _ _ _ _ _ _ _ _ _ _ _
   | exact imageeditorref11_Check.mono _ _ _ _
   | exact LeO.none _
   | refine LeO.ite ?_ ?_
   | refine LeO.bind ?_ (fun _ => ?_)
  ·intro y0 y1 y2 y3 y4 y5 y6 y7 y8 y9 y10 y11 y12
   unfold imageeditorref11_Flip.j4
   repeat' first
   | (with_reducible exact ih0 _ _ _ _ _)
   | (with_reducible exact ih1 _ _ _ _ _ _)
   | (with_reducible exact ih2 _ _ _ _ _ _ _ _)
   | (with_reducible exact ih3 _ _ _ _ _ _ _ _ _)
   | (with_reducible exact ih4 _ _ _ _ _ _ _ _ _ _ _ _ _)
   | (with_reducible exact ih5 _ _ _ _ _ _ _ _ _ _ _ _ _)
   | (with_reducible exact imageeditorref11_Check.mono _ _ _ _)
   | (with_reducible exact LeO.refl _)
   | (with_reducible exact LeO.none _)
   | (with_reducible refine LeO.ite ?_ ?_)
   | (with_reducible refine LeO.bind ?_ (fun _ => ?_))
   | exact ih0 _ _ _ _ _
   | exact ih1 _ _ _ _ _ _
   | exact ih2 _ _ _ _ _ _ _ _
   | exact ih3 _ _ _ _ _ _ _ _ _
   | exact ih4 _ _ _ _ _ _ _ _ _ _ _ _ _
   | exact ih5 _ _ _ _ _ _ _ _ _ _ _ _ _
   | exact imageeditorref11_Check.mono _ _ _ _
   | exact LeO.none _
   | refine LeO.ite ?_ ?_
   | refine LeO.bind ?_ (fun _ => ?_)
  ·intro y0 y1 y2 y3 y4 y5 y6 y7 y8 y9 y10 y11 y12
   unfold imageeditorref11_Flip.j5
   repeat' first
   | (with_reducible exact ih0 _ _ _ _ _)
   | (with_reducible exact ih1 _ _ _ _ _ _)
   | (with_reducible exact ih2 _ _ _ _ _ _ _ _)
   | (with_reducible exact ih3 _ _ _ _ _ _ _ _ _)
   | (with_reducible exact ih4 _ _ _ _ _ _ _ _ _ _ _ _ _)
   | (with_reducible exact ih5 _ _ _ _ _ _ _ _ _ _ _ _ _)
   | (with_reducible exact imageeditorref11_Check.mono _ _ _ _)
   | (with_reducible exact LeO.refl _)
   | (with_reducible exact LeO.none _)
   | (with_reducible refine LeO.ite ?_ ?_)
   | (with_reducible refine LeO.bind ?_ (fun _ => ?_))
   | exact ih0 _ _ _ _ _
   | exact ih1 _ _ _ _ _ _
   | exact ih2 _ _ _ _ _ _ _ _
   | exact ih3 _ _ _ _ _ _ _ _ _
   | exact ih4 _ _ _ _ _ _ _ _ _ _ _ _ _
   | exact ih5 _ _ _ _ _ _ _ _ _ _ _ _ _
   | exact imageeditorref11_Check.mono _ _ _ _
   | exact LeO.none _
   | refine LeO.ite ?_ ?_
   | refine LeO.bind ?_ (fun _ => ?_)
theorem imageeditorref11_Flip.mono : ∀ a0 a1 a2 a3 k, LeO (imageeditorref11_Flip.f k a0 a1 a2 a3) (imageeditorref11_Flip.f (k + 1) a0 a1 a2 a3) := by
 intro a0 a1 a2 a3 k
 obtain ⟨ih0, ih1, ih2, ih3, ih4, ih5⟩ := imageeditorref11_Flip.mono_l k
 unfold imageeditorref11_Flip.f
 repeat' first
   | (with_reducible exact ih0 _ _ _ _ _)
   | (with_reducible exact ih1 _ _ _ _ _ _)
   | (with_reducible exact ih2 _ _ _ _ _ _ _ _)
   | (with_reducible exact ih3 _ _ _ _ _ _ _ _ _)
   | (with_reducible exact ih4 _ _ _ _ _ _ _ _ _ _ _ _ _)
   | (with_reducible exact ih5 _ _ _ _ _ _ _ _ _ _ _ _ _)
   | (with_reducible exact imageeditorref11_Check.mono _ _ _ _)
   | (with_reducible exact LeO.refl _)
   | (with_reducible exact LeO.none _)
   | (with_reducible refine LeO.ite ?_ ?_)
   | (with_reducible refine LeO.bind ?_ (fun _ => ?_))
   | exact ih0 _ _ _ _ _
   | exact ih1 _ _ _ _ _ _
   | exact ih2 _ _ _ _ _ _ _ _
   | exact ih3 _ _ _ _ _ _ _ _ _
   | exact ih4 _ _ _ _ _ _ _ _ _ _ _ _ _
   | exact ih5 _ _ _ _ _ _ _ _ _ _ _ _ _
   | exact imageeditorref11_Check.mono _ _ _ _
   | exact LeO.none _
   | refine LeO.ite ?_ ?_
   | refine LeO.bind ?_ (fun _ => ?_)
set_option maxHeartbeats 8000000 in
set_option maxRecDepth 100000 in
theorem imageeditorref11_Flip.calls (k : Nat) (a0_0 : Int) (a0_1 : Int) (A0_2 : Option Addr) (c0_2 : Nat) (l0_2 : List (S26)) (a1 : Int) (r1 : Int) (r2 : Int) (r3 : List (S26)) (r4 : Int) (w : World) (hr0_2 : Kd.C k26 w A0_2 l0_2.length l0_2) (hc0_2 : l0_2.length ≤ c0_2) (h : imageeditorref11_Flip.f k a0_0 a0_1 l0_2 a1 = some (r1, r2, r3, r4)) :
  Calls Try.prog 32 #[.agg #[.int .i64 a0_0, .int .i64 a0_1, .slice A0_2 l0_2.length c0_2], .int .i64 a1] w fun e w' => ∃ v2_ : Value, e = .returned (.tuple #[.agg #[.int .i64 r1, .int .i64 r2, v2_], .int .i64 r4]) ∧ Kd.R k26 26 w' w.heap.size (fun _ => True) v2_ r3 ∧ Below w.heap.size w w' := by
 have hu24 := Try.underlying24
 have hu26 := Try.underlying26
 have HR0_2 := Aside0.mk hr0_2
 have HC0_2 := Aside0.mk hc0_2
 clear hr0_2 hc0_2
 have HB := Aside0.mk (Below.refl w.heap.size w)
 have H : ((imageeditorref11_Check.f k a0_0 a0_1 l0_2).bind fun t665 => (if t665 = 0 then (if a1 < 1 then (imageeditorref11_Flip.j0 k a1 true a0_0 a0_1 l0_2) else (imageeditorref11_Flip.j0 k a1 (decide (a1 > 4)) a0_0 a0_1 l0_2)) else (some (0, 0, ([] : List (S26)), t665)))) = some (r1, r2, r3, r4) := h
 clear h
 replace H := Option.bind_eq_some_iff.mp H
 obtain ⟨t665, A30, H⟩ := H
 replace H : (if t665 = 0 then (if a1 < 1 then (imageeditorref11_Flip.j0 k a1 true a0_0 a0_1 l0_2) else (imageeditorref11_Flip.j0 k a1 (decide (a1 > 4)) a0_0 a0_1 l0_2)) else (some (0, 0, ([] : List (S26)), t665))) = some (r1, r2, r3, r4) := H
 have A3 := Aside0.mk A30
 clear A30
 by_cases c4 : t665 = 0
 ·rw [if_pos c4] at H
  have c4b0 : (t665 == 0) = true := beq_iff_eq.mpr c4
  have c4b1 : (t665 != 0) = false := bne_eq_false_iff_eq.mpr c4
  clear c4
  have HC5 := Aside0.mk H
  clear H
  go_enter Try.func32, Try.ntmps32
  go_upto_region 4 with (first | ((with_reducible refine gate_dst (N := 2) rfl ?_); refine box_event ?hg (N := 2) ?hd (cs := #[.int .i64 a0_0, .int .i64 a0_1, .slice A0_2 l0_2.length c0_2]) (t := 24) ?hr ?_; (case hd => rfl); (case hg => rfl); (case hr => first | (go_simp; done) | (go_simp; rfl)); intro gb663 hg w6 hbox hb; have GW663 := zg HB hg; have GE663 := zg HB hg; have n0_ := Aside0.mk (hbox); replace HB := zb HB hb; have BK663 := n0_; clear n0_; clear hb hbox hg) | ((with_reducible refine gate_dst (N := 4) rfl ?_); refine box_event ?hg (N := 4) ?hd (cs := #[.int .i64 0, .int .i64 0, .slice none 0 0]) (t := 24) ?hr ?_; (case hd => rfl); (case hg => rfl); (case hr => first | (go_simp; done) | (go_simp; rfl)); intro gb664 hg w7 hbox hb; have GW664 := zg HB hg; have GE664 := zg HB hg; have NB663_664 := zn BK663 hg; have NB664_663 := zn' BK663 hg; have n0_ := Aside0.mk (hbox); replace BK663 := zk BK663 hb; replace HB := zb HB hb; have BK664 := n0_; clear n0_; clear hb hbox hg; obtain ⟨hcz8_0, hcz8_1, hcz8_2, hfz8_0, hfz8_1, hfz8_2⟩ := zq3 BK663) | ((with_reducible refine gate_callee (f := 19) rfl ?_); refine goesL_ (some 12) rfl rfl Try.func19 (by kernel_rfl) rfl #[.agg #[.int .i64 a0_0, .int .i64 a0_1, .slice A0_2 l0_2.length c0_2]] rfl (by (try simp only [List.map_toArray, List.map_cons, List.map_nil]); first | done | rfl | (simp only [List.length_drop, List.length_take]; rfl)) ?_; (with_reducible refine (imageeditorref11_Check.calls k a0_0 a0_1 _ _ l0_2 t665 _ ?side1 ?side2 A3.out).mono ?_); (case side1 => repeat (first | exact (Kd.C_below HR0_2.out HB.out) | (with_reducible refine Kd.C_alloc ?_ _) | (with_reducible refine Kd.C_drewN ?_ _) | (with_reducible refine Kd.C_drew ?_))); (case side2 => exact HC0_2.out); rintro e w9 ⟨rfl, hb⟩; refine ⟨_, rfl, ?_⟩; replace BK663 := zk BK663 hb; replace BK664 := zk BK664 hb; replace HB := zb HB hb; (try clear hb); (try clear hb2); (try clear hk); (try clear hi)))
  (try simp only [Act.put, sA, sB, sC])
  go_cut [22] (fun v22 wc => ∃ (kq : Nat) (x22_4 : Bool), v22 = .bool x22_4 ∧ Aside0 (imageeditorref11_Flip.j0 kq a1 x22_4 a0_0 a0_1 l0_2 = some (r1, r2, r3, r4)) ∧ Aside0 (kq ≤ k) ∧ Aside0 (wc.heap[gb663]? = some (.cells #[.int .i64 a0_0, .int .i64 a0_1, (.slice A0_2 l0_2.length c0_2)] 24 (0, 0))) ∧ Aside0 (wc.heap[gb664]? = some (.cells #[.int .i64 0, .int .i64 0, (.slice none 0 0)] 24 (0, 0))) ∧ Aside0 (Below w.heap.size w wc))
  case first =>
   have H := HC5.out
   clear HC5
   by_cases c10 : a1 < 1
   ·rw [if_pos c10] at H
    have c10b0 : decide (a1 < 1) = true := decide_eq_true c10
    clear c10
    (first | rw [c10b0] | (simp only [i64_w, i32_w]; rw [c10b0]) | skip)
    have H' := Aside0.mk H
    clear H
    go_wp2
    go_meet
    case rel => exact ⟨_, (true), (by first | rfl | (simp; done) | (simp [*]; done)), H', ⟨by first | omega | exact Nat.le_refl _⟩, ⟨by exact zk0 BK663⟩, ⟨by exact zk0 BK664⟩, ⟨by exact zb0 HB⟩⟩
   ·rw [if_neg c10] at H
    have c10b0 : decide (a1 < 1) = false := decide_eq_false c10
    clear c10
    (first | rw [c10b0] | (simp only [i64_w, i32_w]; rw [c10b0]) | skip)
    have H' := Aside0.mk H
    clear H
    go_wp2
    go_meet
    case rel => exact ⟨_, (decide (a1 > 4)), (by first | rfl | (simp; done) | (simp [*]; done)), H', ⟨by first | omega | exact Nat.le_refl _⟩, ⟨by exact zk0 BK663⟩, ⟨by exact zk0 BK664⟩, ⟨by exact zb0 HB⟩⟩
  case rest =>
   clear HC5
   try clear c1
   try clear p2
   try clear c3
   try clear q3
   try clear c4
   try clear c4b0
   try clear c4b1
   try clear c10
   try clear c10b0
   try clear hcz8_0
   try clear hcz8_1
   try clear hcz8_2
   try clear hfz8_0
   try clear hfz8_1
   try clear hfz8_2
   obtain ⟨kq, x22_4, rfl, HA, HJ4, BK663, BK664, HB⟩ := hcut
   cases kq with
   | zero => exact absurd HA.out (by simp [imageeditorref11_Flip.j0])
   | succ kj4 =>
    have H := HA.out
    clear HA
    simp only [imageeditorref11_Flip.j0] at H
    by_cases c11 : x22_4 = true
    ·subst c11
     have H1 : (some (0, 0, ([] : List (S26)), 8)) = some (r1, r2, r3, r4) := by rw [if_pos rfl] at H; exact H
     clear H
     have H := H1
     clear H1
     simp only [Option.some.injEq, Prod.mk.injEq] at H
     obtain ⟨rfl, rfl, rfl, rfl⟩ := H
     have hnb12 := NB664_663.out
     have hnc12 := NB663_664.out
     obtain ⟨hcz13_0, hcz13_1, hcz13_2, hfz13_0, hfz13_1, hfz13_2⟩ := zq3 BK664
     go_wp2
     refine bodyPost_ret (results_ct rfl _ _ gb664 24 #[.int .i64 0, .int .i64 0, .slice none 0 0] (0, 0) _ rfl (by exact zp BK664 rfl) Try.underlying24 rfl (by kernel_rfl)) rfl ?_
     exact ⟨_, by first | rfl | (simp [errW_none, errW_some] <;> rfl) | (simp [*, errW_none, errW_some] <;> rfl), by first | exact Kd.R_nil _ _ _ _ _ | exact Kd.N_nil _ _ _ _ _ | exact Kd.V_nil _ _ _ _ _ | exact Kd.Q_nil _ _ _ _ _ | exact Kd.S_nil _ _ _ _ _, by exact zbo HB GE664⟩
    ·replace c11 := Bool.eq_false_iff.mpr c11
     subst c11
     have H1 : (if a1 = 3 then (imageeditorref11_Flip.j1 kj4 a1 a0_0 a0_1 l0_2 a0_1 a0_0) else (imageeditorref11_Flip.j1 kj4 a1 a0_0 a0_1 l0_2 a0_0 a0_1)) = some (r1, r2, r3, r4) := by rw [if_neg (show ¬ (false = true) by decide)] at H; exact H
     clear H
     have H := H1
     clear H1
     have HC14 := Aside0.mk H
     clear H
     have hnb15 := NB663_664.out
     have hnc15 := NB664_663.out
     obtain ⟨hcz16_0, hcz16_1, hcz16_2, hfz16_0, hfz16_1, hfz16_2⟩ := zq3 BK663
     go_upto_if 30 with (first | ((with_reducible refine gate_dst (N := 7) rfl ?_); refine box_event ?hg (N := 7) ?hd (cs := #[.int .i64 0, .int .i64 0, .slice none 0 0]) (t := 24) ?hr ?_; (case hd => rfl); (case hg => rfl); (case hr => first | (go_simp; done) | (go_simp; rfl)); intro gb666 hg w17 hbox hb; have GW666 := zg HB hg; have GE666 := zg HB hg; have NB663_666 := zn BK663 hg; have NB666_663 := zn' BK663 hg; have NB664_666 := zn BK664 hg; have NB666_664 := zn' BK664 hg; have n0_ := Aside0.mk (hbox); replace BK663 := zk BK663 hb; replace BK664 := zk BK664 hb; replace HB := zb HB hb; have BK666 := n0_; clear n0_; clear hb hbox hg; have hnb18 := NB666_663.out; have hnc18 := NB663_666.out; have hnb19 := NB666_664.out; have hnc19 := NB664_666.out; obtain ⟨hcz20_0, hcz20_1, hcz20_2, hfz20_0, hfz20_1, hfz20_2⟩ := zq3 BK666))
     (try simp only [Act.put, sA, sB, sC])
     go_cut [] (fun wc => ∃ (kq : Nat) (x667000_13 : Int) (x667001_13 : Int), Aside0 (imageeditorref11_Flip.j1 kq a1 a0_0 a0_1 l0_2 x667000_13 x667001_13 = some (r1, r2, r3, r4)) ∧ Aside0 (kq ≤ kj4) ∧ Aside0 (wc.heap[gb663]? = some (.cells #[.int .i64 a0_0, .int .i64 a0_1, (.slice A0_2 l0_2.length c0_2)] 24 (0, 0))) ∧ Aside0 (wc.heap[gb664]? = some (.cells #[.int .i64 0, .int .i64 0, (.slice none 0 0)] 24 (0, 0))) ∧ Aside0 (wc.heap[gb666]? = some (.cells #[.int .i64 x667000_13, .int .i64 x667001_13, (.slice none 0 0)] 24 (0, 0))) ∧ Aside0 (Below w.heap.size w wc))
     case first =>
      have H := HC14.out
      clear HC14
      by_cases c21 : a1 = 3
      ·rw [if_pos c21] at H
       have c21b0 : (a1 == 3) = true := beq_iff_eq.mpr c21
       have c21b1 : (a1 != 3) = false := bne_eq_false_iff_eq.mpr c21
       clear c21
       (first | rw [c21b0] | (simp only [i64_w, i32_w]; rw [c21b0]) | skip)
       have H' := Aside0.mk H
       clear H
       have hnb22 := NB663_664.out
       have hnc22 := NB664_663.out
       have hnb23 := NB663_666.out
       have hnc23 := NB666_663.out
       obtain ⟨hcz24_0, hcz24_1, hcz24_2, hfz24_0, hfz24_1, hfz24_2⟩ := zq3 BK663
       have hnb25 := NB666_664.out
       have hnc25 := NB664_666.out
       obtain ⟨hcz26_0, hcz26_1, hcz26_2, hfz26_0, hfz26_1, hfz26_2⟩ := zq3 BK666
       go_wp2
       go_meet
       case rel => exact ⟨_, (a0_1), (a0_0), H', ⟨by have := HJ4.out; first | omega | exact Nat.le_refl _⟩, ⟨by exact zf BK663 NB663_666⟩, ⟨by exact zf BK664 NB664_666⟩, ⟨by exact zp BK666 rfl⟩, ⟨by exact zbo HB GE666⟩⟩
      ·rw [if_neg c21] at H
       have c21b0 : (a1 == 3) = false := beq_eq_false_iff_ne.mpr c21
       have c21b1 : (a1 != 3) = true := bne_iff_ne.mpr c21
       (first | rw [c21b0] | (simp only [i64_w, i32_w]; rw [c21b0]) | skip)
       have H' := Aside0.mk H
       clear H
       go_wp2
       go_meet
       case rel => exact ⟨_, (a0_0), (a0_1), H', ⟨by have := HJ4.out; first | omega | exact Nat.le_refl _⟩, ⟨by exact zf BK663 NB663_666⟩, ⟨by exact zf BK664 NB664_666⟩, ⟨by exact zp BK666 rfl⟩, ⟨by exact zbo HB GE666⟩⟩
     case rest =>
      clear HC14
      try clear c1
      try clear c2
      try clear p2
      try clear c3
      try clear q3
      try clear c4
      try clear c4b0
      try clear c4b1
      try clear c10
      try clear c10b0
      try clear c11
      try clear c12
      try clear c15
      try clear c18
      try clear c19
      try clear c21
      try clear c21b0
      try clear c21b1
      try clear c22
      try clear c23
      try clear c25
      try clear hcz13_0
      try clear hcz13_1
      try clear hcz13_2
      try clear hcz16_0
      try clear hcz16_1
      try clear hcz16_2
      try clear hcz20_0
      try clear hcz20_1
      try clear hcz20_2
      try clear hcz24_0
      try clear hcz24_1
      try clear hcz24_2
      try clear hcz26_0
      try clear hcz26_1
      try clear hcz26_2
      try clear hcz8_0
      try clear hcz8_1
      try clear hcz8_2
      try clear hfz13_0
      try clear hfz13_1
      try clear hfz13_2
      try clear hfz16_0
      try clear hfz16_1
      try clear hfz16_2
      try clear hfz20_0
      try clear hfz20_1
      try clear hfz20_2
      try clear hfz24_0
      try clear hfz24_1
      try clear hfz24_2
      try clear hfz26_0
      try clear hfz26_1
      try clear hfz26_2
      try clear hfz8_0
      try clear hfz8_1
      try clear hfz8_2
      try clear p2
      try clear q3
      obtain ⟨kq, x667000_13, x667001_13, HA, HJ13, BK663, BK664, BK666, HB⟩ := hcut
      cases kq with
      | zero => exact absurd HA.out (by simp [imageeditorref11_Flip.j1])
      | succ kj13 =>
       have H := HA.out
       clear HA
       simp only [imageeditorref11_Flip.j1] at H
       have H' := Aside0.mk H
       clear H
       go_wp2
       go_loopg [8] kj13 (fun kq v8 w' => ∃ (x8_3 : Int) (x667002_3 : List (S26)) (u667002 : Value), v8 = .int .i64 x8_3 ∧ Aside0 (imageeditorref11_Flip.l0 kq a1 x8_3 a0_0 a0_1 l0_2 x667000_13 x667001_13 x667002_3 = some (r1, r2, r3, r4)) ∧ Aside0 (kq ≤ kj13) ∧ Aside0 (Kd.R k26 26 w' w.heap.size (fun _ => True) u667002 x667002_3) ∧ Aside0 (w'.heap[gb663]? = some (.cells #[.int .i64 a0_0, .int .i64 a0_1, (.slice A0_2 l0_2.length c0_2)] 24 (0, 0))) ∧ Aside0 (w'.heap[gb664]? = some (.cells #[.int .i64 0, .int .i64 0, (.slice none 0 0)] 24 (0, 0))) ∧ Aside0 (w'.heap[gb666]? = some (.cells #[.int .i64 x667000_13, .int .i64 x667001_13, u667002] 24 (0, 0))) ∧ Aside0 (Below w.heap.size w w'))
       case atStart => exact ⟨(0), (([] : List (S26))), (.slice none 0 0), (by first | rfl | (simp; done) | (simp [*]; done)), H', ⟨Nat.le_refl _⟩, ⟨by first | exact Kd.R_nil _ _ _ _ _ | exact Kd.N_nil _ _ _ _ _ | exact Kd.V_nil _ _ _ _ _ | exact Kd.Q_nil _ _ _ _ _ | exact Kd.S_nil _ _ _ _ _⟩, ⟨by exact zk0 BK663⟩, ⟨by exact zk0 BK664⟩, ⟨by exact zk0 BK666⟩, ⟨by exact zb0 HB⟩⟩
       case round =>
        clear H'
        try clear c1
        try clear c2
        try clear p2
        try clear c3
        try clear q3
        try clear c4
        try clear c4b0
        try clear c4b1
        try clear c10
        try clear c10b0
        try clear c11
        try clear c12
        try clear c15
        try clear c18
        try clear c19
        try clear c21
        try clear c21b0
        try clear c21b1
        try clear c22
        try clear c23
        try clear c25
        try clear hcz13_0
        try clear hcz13_1
        try clear hcz13_2
        try clear hcz16_0
        try clear hcz16_1
        try clear hcz16_2
        try clear hcz20_0
        try clear hcz20_1
        try clear hcz20_2
        try clear hcz24_0
        try clear hcz24_1
        try clear hcz24_2
        try clear hcz26_0
        try clear hcz26_1
        try clear hcz26_2
        try clear hcz8_0
        try clear hcz8_1
        try clear hcz8_2
        try clear hfz13_0
        try clear hfz13_1
        try clear hfz13_2
        try clear hfz16_0
        try clear hfz16_1
        try clear hfz16_2
        try clear hfz20_0
        try clear hfz20_1
        try clear hfz20_2
        try clear hfz24_0
        try clear hfz24_1
        try clear hfz24_2
        try clear hfz26_0
        try clear hfz26_1
        try clear hfz26_2
        try clear hfz8_0
        try clear hfz8_1
        try clear hfz8_2
        try clear p2
        try clear q3
        obtain ⟨x8_3, x667002_3, u667002, rfl, HA, HK3, HO_667002, BK663, BK664, BK666, HB⟩ := hrel
        cases gk with
        | zero => exact absurd HA.out (by simp [imageeditorref11_Flip.l0])
        | succ k3 =>
         have H := HA.out
         clear HA
         simp only [imageeditorref11_Flip.l0] at H
         by_cases c27 : x8_3 < x667001_13
         ·rw [if_pos c27] at H
          have c27b0 : decide (x8_3 < x667001_13) = true := decide_eq_true c27
          clear c27
          have H' := Aside0.mk H
          clear H
          obtain ⟨hcz28_0, hcz28_1, hcz28_2, hfz28_0, hfz28_1, hfz28_2⟩ := zq3 BK666
          go_wp2
          go_loopg [9] k3 (fun kq v9 w' => ∃ (x9_4 : Int) (x667002_4 : List (S26)) (u667002 : Value), v9 = .int .i64 x9_4 ∧ Aside0 (imageeditorref11_Flip.l1 kq a1 x8_3 x9_4 a0_0 a0_1 l0_2 x667000_13 x667001_13 x667002_4 = some (r1, r2, r3, r4)) ∧ Aside0 (kq ≤ k3) ∧ Aside0 (Kd.R k26 26 w' w.heap.size (fun _ => True) u667002 x667002_4) ∧ Aside0 (w'.heap[gb663]? = some (.cells #[.int .i64 a0_0, .int .i64 a0_1, (.slice A0_2 l0_2.length c0_2)] 24 (0, 0))) ∧ Aside0 (w'.heap[gb664]? = some (.cells #[.int .i64 0, .int .i64 0, (.slice none 0 0)] 24 (0, 0))) ∧ Aside0 (w'.heap[gb666]? = some (.cells #[.int .i64 x667000_13, .int .i64 x667001_13, u667002] 24 (0, 0))) ∧ Aside0 (Below w.heap.size w w'))
          case atStart => exact ⟨(0), (x667002_3), (u667002), (by first | rfl | (simp; done) | (simp [*]; done)), H', ⟨Nat.le_refl _⟩, ⟨by exact zr0 HO_667002⟩, ⟨by exact zk0 BK663⟩, ⟨by exact zk0 BK664⟩, ⟨by exact zk0 BK666⟩, ⟨by exact zb0 HB⟩⟩
          case round =>
           clear H'
           try clear c1
           try clear c2
           try clear p2
           try clear c3
           try clear q3
           try clear c4
           try clear c4b0
           try clear c4b1
           try clear c10
           try clear c10b0
           try clear c11
           try clear c12
           try clear c15
           try clear c18
           try clear c19
           try clear c21
           try clear c21b0
           try clear c21b1
           try clear c22
           try clear c23
           try clear c25
           try clear c27
           try clear c27b0
           try clear hcz13_0
           try clear hcz13_1
           try clear hcz13_2
           try clear hcz16_0
           try clear hcz16_1
           try clear hcz16_2
           try clear hcz20_0
           try clear hcz20_1
           try clear hcz20_2
           try clear hcz24_0
           try clear hcz24_1
           try clear hcz24_2
           try clear hcz26_0
           try clear hcz26_1
           try clear hcz26_2
           try clear hcz28_0
           try clear hcz28_1
           try clear hcz28_2
           try clear hcz8_0
           try clear hcz8_1
           try clear hcz8_2
           try clear hfz13_0
           try clear hfz13_1
           try clear hfz13_2
           try clear hfz16_0
           try clear hfz16_1
           try clear hfz16_2
           try clear hfz20_0
           try clear hfz20_1
           try clear hfz20_2
           try clear hfz24_0
           try clear hfz24_1
           try clear hfz24_2
           try clear hfz26_0
           try clear hfz26_1
           try clear hfz26_2
           try clear hfz28_0
           try clear hfz28_1
           try clear hfz28_2
           try clear hfz8_0
           try clear hfz8_1
           try clear hfz8_2
           try clear p2
           try clear q3
           obtain ⟨x9_4, x667002_4, u667002, rfl, HA, HK4, HO_667002, BK663, BK664, BK666, HB⟩ := hrel
           cases gk with
           | zero => exact absurd HA.out (by simp [imageeditorref11_Flip.l1])
           | succ k4 =>
            have H := HA.out
            clear HA
            simp only [imageeditorref11_Flip.l1] at H
            by_cases c29 : x9_4 < x667000_13
            ·rw [if_pos c29] at H
             have c29b0 : decide (x9_4 < x667000_13) = true := decide_eq_true c29
             clear c29
             have HC30 := Aside0.mk H
             clear H
             have hnb31 := NB666_663.out
             have hnc31 := NB663_666.out
             have hnb32 := NB666_664.out
             have hnc32 := NB664_666.out
             obtain ⟨hcz33_0, hcz33_1, hcz33_2, hfz33_0, hfz33_1, hfz33_2⟩ := zq3 BK666
             go_upto_if 50 with (first | ((with_reducible refine gate_dst (N := 10) rfl ?_); refine box_event ?hg (N := 10) ?hd (cs := #[.int .i64 0, .int .i64 0, .int .i64 0, .int .i64 0]) (t := 26) ?hr ?_; (case hd => rfl); (case hg => rfl); (case hr => first | (go_simp; done) | (go_simp; rfl)); intro gb667 hg w34 hbox hb; have GW667 := zg HB hg; have GE667 := zg HB hg; have NB663_667 := zn BK663 hg; have NB667_663 := zn' BK663 hg; have NB664_667 := zn BK664 hg; have NB667_664 := zn' BK664 hg; have NB666_667 := zn BK666 hg; have NB667_666 := zn' BK666 hg; have n0_ := Aside0.mk (Kd.R_below (Kd.R_elderB (by exact zr0 HO_667002) gb667 (Nat.le_of_eq hg.symm)) hb); have n1_ := Aside0.mk (hbox); replace BK663 := zk BK663 hb; replace BK664 := zk BK664 hb; replace BK666 := zk BK666 hb; replace HB := zb HB hb; clear HO_667002; have HO_667002 := n0_; have BK667 := n1_; clear n0_ n1_; clear hb hbox hg; have hnb35 := NB667_663.out; have hnc35 := NB663_667.out; have hnb36 := NB667_664.out; have hnc36 := NB664_667.out; have hnb37 := NB667_666.out; have hnc37 := NB666_667.out; obtain ⟨hcz38_0, hcz38_1, hcz38_2, hcz38_3, hfz38_0, hfz38_1, hfz38_2, hfz38_3⟩ := zq4 BK667))
             (try simp only [Act.put, sA, sB, sC])
             go_cut [] (fun wc => ∃ (kq : Nat) (x668000_29 : Int) (x668001_29 : Int) (x668002_29 : Int) (x668003_29 : Int), Aside0 (imageeditorref11_Flip.j4 kq a1 x8_3 x9_4 a0_0 a0_1 l0_2 x667000_13 x667001_13 x667002_4 x668000_29 x668001_29 x668002_29 x668003_29 = some (r1, r2, r3, r4)) ∧ Aside0 (kq ≤ k4) ∧ Aside0 (Kd.R k26 26 wc w.heap.size (fun k_ => k_ ≠ gb667) u667002 x667002_4) ∧ Aside0 (wc.heap[gb663]? = some (.cells #[.int .i64 a0_0, .int .i64 a0_1, (.slice A0_2 l0_2.length c0_2)] 24 (0, 0))) ∧ Aside0 (wc.heap[gb664]? = some (.cells #[.int .i64 0, .int .i64 0, (.slice none 0 0)] 24 (0, 0))) ∧ Aside0 (wc.heap[gb666]? = some (.cells #[.int .i64 x667000_13, .int .i64 x667001_13, u667002] 24 (0, 0))) ∧ Aside0 (wc.heap[gb667]? = some (.cells #[.int .i64 x668000_29, .int .i64 x668001_29, .int .i64 x668002_29, .int .i64 x668003_29] 26 (0, 0))) ∧ Aside0 (Below w.heap.size w wc))
             case first =>
              have H := HC30.out
              clear HC30
              by_cases c39 : a1 = 1
              ·rw [if_pos c39] at H
               have c39b0 : (a1 == 1) = true := beq_iff_eq.mpr c39
               have c39b1 : (a1 != 1) = false := bne_eq_false_iff_eq.mpr c39
               clear c39
               (first | rw [c39b0] | (simp only [i64_w, i32_w]; rw [c39b0]) | skip)
               replace H := Option.bind_eq_some_iff.mp H
               obtain ⟨⟨t668, t669, t670, t671⟩, A400, H⟩ := H
               replace H : (imageeditorref11_Flip.j4 k4 a1 x8_3 x9_4 a0_0 a0_1 l0_2 x667000_13 x667001_13 x667002_4 t668 t669 t670 t671) = some (r1, r2, r3, r4) := H
               have A40 := Aside0.mk A400
               clear A400
               have H' := Aside0.mk H
               clear H
               have hnb41 := NB663_664.out
               have hnc41 := NB664_663.out
               have hnb42 := NB663_666.out
               have hnc42 := NB666_663.out
               have hnb43 := NB663_667.out
               have hnc43 := NB667_663.out
               obtain ⟨hcz44_0, hcz44_1, hcz44_2, hfz44_0, hfz44_1, hfz44_2⟩ := zq3 BK663
               go_wp2_with (first | ((with_reducible refine gate_callee (f := 44) rfl ?_); refine goesL_ (some 58) rfl rfl Try.func44 (by kernel_rfl) rfl #[.agg #[.int .i64 a0_0, .int .i64 a0_1, .slice A0_2 l0_2.length c0_2], .int .i64 (wrap64 ((wrap64 (a0_0 - 1)) - x9_4)), .int .i64 x8_3] rfl (by (try simp only [List.map_toArray, List.map_cons, List.map_nil]); first | done | rfl | (simp only [List.length_drop, List.length_take]; rfl)) ?_; (with_reducible refine (imageeditorref11_Pick.calls a0_0 a0_1 _ _ l0_2 (wrap64 ((wrap64 (a0_0 - 1)) - x9_4)) x8_3 t668 t669 t670 t671 _ ?side1 ?side2 A40.out).mono ?_); (case side1 => exact Kd.C_below HR0_2.out (by exact zbo HB GE667)); (case side2 => exact HC0_2.out); rintro e w45 ⟨rfl, hb⟩; refine ⟨_, rfl, ?_⟩; have n0_ := Aside0.mk (Kd.R_below (by exact zro' HO_667002 (fun k_ hk => hk.2)) hb); have n1_ := Aside0.mk (blk_below (g := gb667) (o := .cells #[.int .i64 0, .int .i64 0, .int .i64 0, .int .i64 0] 26 (0, 0)) (by exact zp BK667 rfl) hb); have n2_ := Aside0.mk (below_step (by exact zbo HB GE667) hb); replace BK663 := zfk BK663 NB663_667 hb; replace BK664 := zfk BK664 NB664_667 hb; replace BK666 := zfk BK666 NB666_667 hb; clear HO_667002; clear BK667; clear HB; have HO_667002 := n0_; have BK667 := n1_; have HB := n2_; clear n0_ n1_ n2_; (try clear hb); (try clear hb2); (try clear hk); (try clear hi); have hnb46 := NB667_664.out; have hnc46 := NB664_667.out; have hnb47 := NB667_666.out; have hnc47 := NB666_667.out; obtain ⟨hcz48_0, hcz48_1, hcz48_2, hcz48_3, hfz48_0, hfz48_1, hfz48_2, hfz48_3⟩ := zq4 BK667))
               go_meet
               case rel => exact ⟨_, (t668), (t669), (t670), (t671), H', ⟨by have := HJ4.out; have := HJ13.out; have := HK3.out; have := HK4.out; first | omega | exact Nat.le_refl _⟩, ⟨by (with_reducible repeat (first | apply Kd.R_alloc | apply Kd.R_drewN | apply Kd.R_drew)); exact Kd.R_mono (Kd.R_far (p := ⟨gb667, 3, none⟩) (Kd.R_far (p := ⟨gb667, 2, none⟩) (Kd.R_far (p := ⟨gb667, 1, none⟩) (Kd.R_far (p := ⟨gb667, 0, none⟩) (Kd.R_mono HO_667002.out (fun k_ hk => (⟨hk, hk.2⟩ : _ ∧ k_ ≠ gb667))) (fun _ hk => hk.2) (.int .i64 t668)) (fun _ hk => hk.2) (.int .i64 t669)) (fun _ hk => hk.2) (.int .i64 t670)) (fun _ hk => hk.2) (.int .i64 t671)) (fun _ hk => hk.1.2)⟩, ⟨by exact zf BK663 NB663_667⟩, ⟨by exact zf BK664 NB664_667⟩, ⟨by exact zf BK666 NB666_667⟩, ⟨by exact zp BK667 rfl⟩, ⟨by exact zbo HB GE667⟩⟩
              ·rw [if_neg c39] at H
               have c39b0 : (a1 == 1) = false := beq_eq_false_iff_ne.mpr c39
               have c39b1 : (a1 != 1) = true := bne_iff_ne.mpr c39
               (first | rw [c39b0] | (simp only [i64_w, i32_w]; rw [c39b0]) | skip)
               have H' := Aside0.mk H
               clear H
               go_wp2
               go_meet
               case rel => exact ⟨_, (0), (0), (0), (0), H', ⟨by have := HJ4.out; have := HJ13.out; have := HK3.out; have := HK4.out; first | omega | exact Nat.le_refl _⟩, ⟨by (with_reducible repeat (first | apply Kd.R_alloc | apply Kd.R_drewN | apply Kd.R_drew)); exact Kd.R_mono (Kd.R_far (p := ⟨gb667, 3, none⟩) (Kd.R_far (p := ⟨gb667, 2, none⟩) (Kd.R_far (p := ⟨gb667, 1, none⟩) (Kd.R_far (p := ⟨gb667, 0, none⟩) (Kd.R_mono HO_667002.out (fun k_ hk => (⟨hk, hk.2⟩ : _ ∧ k_ ≠ gb667))) (fun _ hk => hk.2) (.int .i64 0)) (fun _ hk => hk.2) (.int .i64 0)) (fun _ hk => hk.2) (.int .i64 0)) (fun _ hk => hk.2) (.int .i64 0)) (fun _ hk => hk.1.2)⟩, ⟨by exact zf BK663 NB663_667⟩, ⟨by exact zf BK664 NB664_667⟩, ⟨by exact zf BK666 NB666_667⟩, ⟨by exact zp BK667 rfl⟩, ⟨by exact zbo HB GE667⟩⟩
             case rest =>
              clear HC30
              try clear c1
              try clear c2
              try clear p2
              try clear c3
              try clear q3
              try clear c4
              try clear c4b0
              try clear c4b1
              try clear q4
              try clear p6
              try clear c10
              try clear c10b0
              try clear c11
              try clear c12
              try clear c15
              try clear c18
              try clear c19
              try clear c21
              try clear c21b0
              try clear c21b1
              try clear c22
              try clear c23
              try clear c25
              try clear c27
              try clear c27b0
              try clear c29
              try clear c29b0
              try clear c31
              try clear c32
              try clear c35
              try clear c36
              try clear c37
              try clear c39
              try clear c39b0
              try clear c39b1
              try clear c41
              try clear c42
              try clear c43
              try clear c44
              try clear c46
              try clear c47
              try clear hcz13_0
              try clear hcz13_1
              try clear hcz13_2
              try clear hcz16_0
              try clear hcz16_1
              try clear hcz16_2
              try clear hcz20_0
              try clear hcz20_1
              try clear hcz20_2
              try clear hcz24_0
              try clear hcz24_1
              try clear hcz24_2
              try clear hcz26_0
              try clear hcz26_1
              try clear hcz26_2
              try clear hcz28_0
              try clear hcz28_1
              try clear hcz28_2
              try clear hcz33_0
              try clear hcz33_1
              try clear hcz33_2
              try clear hcz38_0
              try clear hcz38_1
              try clear hcz38_2
              try clear hcz38_3
              try clear hcz44_0
              try clear hcz44_1
              try clear hcz44_2
              try clear hcz48_0
              try clear hcz48_1
              try clear hcz48_2
              try clear hcz48_3
              try clear hcz8_0
              try clear hcz8_1
              try clear hcz8_2
              try clear hfz13_0
              try clear hfz13_1
              try clear hfz13_2
              try clear hfz16_0
              try clear hfz16_1
              try clear hfz16_2
              try clear hfz20_0
              try clear hfz20_1
              try clear hfz20_2
              try clear hfz24_0
              try clear hfz24_1
              try clear hfz24_2
              try clear hfz26_0
              try clear hfz26_1
              try clear hfz26_2
              try clear hfz28_0
              try clear hfz28_1
              try clear hfz28_2
              try clear hfz33_0
              try clear hfz33_1
              try clear hfz33_2
              try clear hfz38_0
              try clear hfz38_1
              try clear hfz38_2
              try clear hfz38_3
              try clear hfz44_0
              try clear hfz44_1
              try clear hfz44_2
              try clear hfz48_0
              try clear hfz48_1
              try clear hfz48_2
              try clear hfz48_3
              try clear hfz8_0
              try clear hfz8_1
              try clear hfz8_2
              try clear p2
              try clear q3
              obtain ⟨kq, x668000_29, x668001_29, x668002_29, x668003_29, HA, HJ29, HO_667002, BK663, BK664, BK666, BK667, HB⟩ := hcut
              cases kq with
              | zero => exact absurd HA.out (by simp [imageeditorref11_Flip.j4])
              | succ kj29 =>
               have H := HA.out
               clear HA
               simp only [imageeditorref11_Flip.j4] at H
               have HC49 := Aside0.mk H
               clear H
               go_upto_if 60 with (fail)
               go_cut [] (fun wc => ∃ (kq : Nat) (x668000_48 : Int) (x668001_48 : Int) (x668002_48 : Int) (x668003_48 : Int), Aside0 (imageeditorref11_Flip.j5 kq a1 x8_3 x9_4 a0_0 a0_1 l0_2 x667000_13 x667001_13 x667002_4 x668000_48 x668001_48 x668002_48 x668003_48 = some (r1, r2, r3, r4)) ∧ Aside0 (kq ≤ kj29) ∧ Aside0 (Kd.R k26 26 wc w.heap.size (fun k_ => k_ ≠ gb667) u667002 x667002_4) ∧ Aside0 (wc.heap[gb663]? = some (.cells #[.int .i64 a0_0, .int .i64 a0_1, (.slice A0_2 l0_2.length c0_2)] 24 (0, 0))) ∧ Aside0 (wc.heap[gb664]? = some (.cells #[.int .i64 0, .int .i64 0, (.slice none 0 0)] 24 (0, 0))) ∧ Aside0 (wc.heap[gb666]? = some (.cells #[.int .i64 x667000_13, .int .i64 x667001_13, u667002] 24 (0, 0))) ∧ Aside0 (wc.heap[gb667]? = some (.cells #[.int .i64 x668000_48, .int .i64 x668001_48, .int .i64 x668002_48, .int .i64 x668003_48] 26 (0, 0))) ∧ Aside0 (Below w.heap.size w wc))
               case first =>
                have H := HC49.out
                clear HC49
                by_cases c50 : a1 = 2
                ·rw [if_pos c50] at H
                 have c50b0 : (a1 == 2) = true := beq_iff_eq.mpr c50
                 have c50b1 : (a1 != 2) = false := bne_eq_false_iff_eq.mpr c50
                 clear c50
                 (first | rw [c50b0] | (simp only [i64_w, i32_w]; rw [c50b0]) | skip)
                 replace H := Option.bind_eq_some_iff.mp H
                 obtain ⟨⟨t672, t673, t674, t675⟩, A510, H⟩ := H
                 replace H : (imageeditorref11_Flip.j5 kj29 a1 x8_3 x9_4 a0_0 a0_1 l0_2 x667000_13 x667001_13 x667002_4 t672 t673 t674 t675) = some (r1, r2, r3, r4) := H
                 have A51 := Aside0.mk A510
                 clear A510
                 have H' := Aside0.mk H
                 clear H
                 have hnb52 := NB663_664.out
                 have hnc52 := NB664_663.out
                 have hnb53 := NB663_666.out
                 have hnc53 := NB666_663.out
                 have hnb54 := NB663_667.out
                 have hnc54 := NB667_663.out
                 obtain ⟨hcz55_0, hcz55_1, hcz55_2, hfz55_0, hfz55_1, hfz55_2⟩ := zq3 BK663
                 go_wp2_with (first | ((with_reducible refine gate_callee (f := 44) rfl ?_); refine goesL_ (some 68) rfl rfl Try.func44 (by kernel_rfl) rfl #[.agg #[.int .i64 a0_0, .int .i64 a0_1, .slice A0_2 l0_2.length c0_2], .int .i64 x9_4, .int .i64 (wrap64 ((wrap64 (a0_1 - 1)) - x8_3))] rfl (by (try simp only [List.map_toArray, List.map_cons, List.map_nil]); first | done | rfl | (simp only [List.length_drop, List.length_take]; rfl)) ?_; (with_reducible refine (imageeditorref11_Pick.calls a0_0 a0_1 _ _ l0_2 x9_4 (wrap64 ((wrap64 (a0_1 - 1)) - x8_3)) t672 t673 t674 t675 _ ?side1 ?side2 A51.out).mono ?_); (case side1 => repeat (first | exact (Kd.C_below HR0_2.out HB.out) | (with_reducible refine Kd.C_alloc ?_ _) | (with_reducible refine Kd.C_drewN ?_ _) | (with_reducible refine Kd.C_drew ?_))); (case side2 => exact HC0_2.out); rintro e w56 ⟨rfl, hb⟩; refine ⟨_, rfl, ?_⟩; replace HO_667002 := zr HO_667002 hb; replace BK663 := zk BK663 hb; replace BK664 := zk BK664 hb; replace BK666 := zk BK666 hb; replace BK667 := zk BK667 hb; replace HB := zb HB hb; (try clear hb); (try clear hb2); (try clear hk); (try clear hi); have hnb57 := NB667_664.out; have hnc57 := NB664_667.out; have hnb58 := NB667_666.out; have hnc58 := NB666_667.out; obtain ⟨hcz59_0, hcz59_1, hcz59_2, hcz59_3, hfz59_0, hfz59_1, hfz59_2, hfz59_3⟩ := zq4 BK667))
                 go_meet
                 case rel => exact ⟨_, (t672), (t673), (t674), (t675), H', ⟨by have := HJ4.out; have := HJ13.out; have := HK3.out; have := HK4.out; have := HJ29.out; first | omega | exact Nat.le_refl _⟩, ⟨by exact zro' HO_667002 (fun k_ hk => hk)⟩, ⟨by exact zf BK663 NB663_667⟩, ⟨by exact zf BK664 NB664_667⟩, ⟨by exact zf BK666 NB666_667⟩, ⟨by exact zp BK667 rfl⟩, ⟨by exact zbo HB GE667⟩⟩
                ·rw [if_neg c50] at H
                 have c50b0 : (a1 == 2) = false := beq_eq_false_iff_ne.mpr c50
                 have c50b1 : (a1 != 2) = true := bne_iff_ne.mpr c50
                 (first | rw [c50b0] | (simp only [i64_w, i32_w]; rw [c50b0]) | skip)
                 have H' := Aside0.mk H
                 clear H
                 go_wp2
                 go_meet
                 case rel => exact ⟨_, (x668000_29), (x668001_29), (x668002_29), (x668003_29), H', ⟨by have := HJ4.out; have := HJ13.out; have := HK3.out; have := HK4.out; have := HJ29.out; first | omega | exact Nat.le_refl _⟩, ⟨by exact zr0 HO_667002⟩, ⟨by exact zk0 BK663⟩, ⟨by exact zk0 BK664⟩, ⟨by exact zk0 BK666⟩, ⟨by exact zk0 BK667⟩, ⟨by exact zb0 HB⟩⟩
               case rest =>
                clear HC49
                try clear c1
                try clear c2
                try clear p2
                try clear c3
                try clear q3
                try clear c4
                try clear c4b0
                try clear c4b1
                try clear q4
                try clear c5
                try clear p6
                try clear c10
                try clear c10b0
                try clear c11
                try clear c12
                try clear c15
                try clear c18
                try clear c19
                try clear c21
                try clear c21b0
                try clear c21b1
                try clear c22
                try clear c23
                try clear c25
                try clear c27
                try clear c27b0
                try clear c29
                try clear c29b0
                try clear c31
                try clear c32
                try clear c35
                try clear c36
                try clear c37
                try clear c39
                try clear c39b0
                try clear c39b1
                try clear c41
                try clear c42
                try clear c43
                try clear c44
                try clear c46
                try clear c47
                try clear c50
                try clear c50b0
                try clear c50b1
                try clear c52
                try clear c53
                try clear c54
                try clear c57
                try clear c58
                try clear hcz13_0
                try clear hcz13_1
                try clear hcz13_2
                try clear hcz16_0
                try clear hcz16_1
                try clear hcz16_2
                try clear hcz20_0
                try clear hcz20_1
                try clear hcz20_2
                try clear hcz24_0
                try clear hcz24_1
                try clear hcz24_2
                try clear hcz26_0
                try clear hcz26_1
                try clear hcz26_2
                try clear hcz28_0
                try clear hcz28_1
                try clear hcz28_2
                try clear hcz33_0
                try clear hcz33_1
                try clear hcz33_2
                try clear hcz38_0
                try clear hcz38_1
                try clear hcz38_2
                try clear hcz38_3
                try clear hcz44_0
                try clear hcz44_1
                try clear hcz44_2
                try clear hcz48_0
                try clear hcz48_1
                try clear hcz48_2
                try clear hcz48_3
                try clear hcz55_0
                try clear hcz55_1
                try clear hcz55_2
                try clear hcz59_0
                try clear hcz59_1
                try clear hcz59_2
                try clear hcz59_3
                try clear hcz8_0
                try clear hcz8_1
                try clear hcz8_2
                try clear hfz13_0
                try clear hfz13_1
                try clear hfz13_2
                try clear hfz16_0
                try clear hfz16_1
                try clear hfz16_2
                try clear hfz20_0
                try clear hfz20_1
                try clear hfz20_2
                try clear hfz24_0
                try clear hfz24_1
                try clear hfz24_2
                try clear hfz26_0
                try clear hfz26_1
                try clear hfz26_2
                try clear hfz28_0
                try clear hfz28_1
                try clear hfz28_2
                try clear hfz33_0
                try clear hfz33_1
                try clear hfz33_2
                try clear hfz38_0
                try clear hfz38_1
                try clear hfz38_2
                try clear hfz38_3
                try clear hfz44_0
                try clear hfz44_1
                try clear hfz44_2
                try clear hfz48_0
                try clear hfz48_1
                try clear hfz48_2
                try clear hfz48_3
                try clear hfz55_0
                try clear hfz55_1
                try clear hfz55_2
                try clear hfz59_0
                try clear hfz59_1
                try clear hfz59_2
                try clear hfz59_3
                try clear hfz8_0
                try clear hfz8_1
                try clear hfz8_2
                try clear p2
                try clear p6
                try clear q3
                try clear q4
                obtain ⟨kq, x668000_48, x668001_48, x668002_48, x668003_48, HA, HJ48, HO_667002, BK663, BK664, BK666, BK667, HB⟩ := hcut
                cases kq with
                | zero => exact absurd HA.out (by simp [imageeditorref11_Flip.j5])
                | succ kj48 =>
                 have H := HA.out
                 clear HA
                 simp only [imageeditorref11_Flip.j5] at H
                 by_cases c60 : a1 = 3
                 ·rw [if_pos c60] at H
                  have c60b0 : (a1 == 3) = true := beq_iff_eq.mpr c60
                  have c60b1 : (a1 != 3) = false := bne_eq_false_iff_eq.mpr c60
                  clear c60
                  replace H := Option.bind_eq_some_iff.mp H
                  obtain ⟨⟨t676, t677, t678, t679⟩, A610, H⟩ := H
                  replace H : (if a1 = 4 then ((imageeditorref11_Pick.f a0_0 a0_1 l0_2 (wrap64 ((wrap64 (a0_0 - 1)) - x9_4)) (wrap64 ((wrap64 (a0_1 - 1)) - x8_3))).bind fun bt680 => (if x667002_4.length < 4398046511104 then (imageeditorref11_Flip.l1 kj48 a1 x8_3 (wrap64 (x9_4 + 1)) a0_0 a0_1 l0_2 x667000_13 x667001_13 (x667002_4 ++ [(⟨bt680.1, bt680.2.1, bt680.2.2.1, bt680.2.2.2⟩ : S26)])) else (none))) else (if x667002_4.length < 4398046511104 then (imageeditorref11_Flip.l1 kj48 a1 x8_3 (wrap64 (x9_4 + 1)) a0_0 a0_1 l0_2 x667000_13 x667001_13 (x667002_4 ++ [(⟨t676, t677, t678, t679⟩ : S26)])) else (none))) = some (r1, r2, r3, r4) := H
                  have A61 := Aside0.mk A610
                  clear A610
                  by_cases c62 : a1 = 4
                  ·rw [if_pos c62] at H
                   have c62b0 : (a1 == 4) = true := beq_iff_eq.mpr c62
                   have c62b1 : (a1 != 4) = false := bne_eq_false_iff_eq.mpr c62
                   clear c62
                   replace H := Option.bind_eq_some_iff.mp H
                   obtain ⟨⟨t680, t681, t682, t683⟩, A630, H⟩ := H
                   replace H : (if x667002_4.length < 4398046511104 then (imageeditorref11_Flip.l1 kj48 a1 x8_3 (wrap64 (x9_4 + 1)) a0_0 a0_1 l0_2 x667000_13 x667001_13 (x667002_4 ++ [(⟨t680, t681, t682, t683⟩ : S26)])) else (none)) = some (r1, r2, r3, r4) := H
                   have A63 := Aside0.mk A630
                   clear A630
                   by_cases c64 : x667002_4.length < 4398046511104
                   ·rw [if_pos c64] at H
                    have LMc64 := Aside0.mk c64
                    clear c64
                    obtain ⟨y684, hy684⟩ : ∃ y_ : List (S26), y_ = (x667002_4 ++ [(⟨t680, t681, t682, t683⟩ : S26)]) := ⟨_, rfl⟩
                    replace H : (imageeditorref11_Flip.l1 kj48 a1 x8_3 (wrap64 (x9_4 + 1)) a0_0 a0_1 l0_2 x667000_13 x667001_13 y684) = some (r1, r2, r3, r4) := by first | (rw [hy684]; with_reducible exact H) | (have H2_ := (Option.bind_some _ _).symm.trans H; rw [hy684]; with_reducible exact H2_) | (have H2_ := (Option.bind_some _ _).symm.trans H; with_reducible exact H2_) | with_reducible exact H | (rw [hy684]; exact H) | exact H
                    have Ny684 := Aside0.mk hy684
                    clear hy684
                    have H' := Aside0.mk H
                    clear H
                    have hnb65 := NB663_664.out
                    have hnc65 := NB664_663.out
                    have hnb66 := NB663_666.out
                    have hnc66 := NB666_663.out
                    have hnb67 := NB663_667.out
                    have hnc67 := NB667_663.out
                    obtain ⟨hcz68_0, hcz68_1, hcz68_2, hfz68_0, hfz68_1, hfz68_2⟩ := zq3 BK663
                    go_wp2_with (first | ((with_reducible refine gate_callee (f := 44) rfl ?_); refine goesL_ (some 74) rfl rfl Try.func44 (by kernel_rfl) rfl #[.agg #[.int .i64 a0_0, .int .i64 a0_1, .slice A0_2 l0_2.length c0_2], .int .i64 x8_3, .int .i64 x9_4] rfl (by (try simp only [List.map_toArray, List.map_cons, List.map_nil]); first | done | rfl | (simp only [List.length_drop, List.length_take]; rfl)) ?_; (with_reducible refine (imageeditorref11_Pick.calls a0_0 a0_1 _ _ l0_2 x8_3 x9_4 t676 t677 t678 t679 _ ?side1 ?side2 A61.out).mono ?_); (case side1 => repeat (first | exact (Kd.C_below HR0_2.out HB.out) | (with_reducible refine Kd.C_alloc ?_ _) | (with_reducible refine Kd.C_drewN ?_ _) | (with_reducible refine Kd.C_drew ?_))); (case side2 => exact HC0_2.out); rintro e w69 ⟨rfl, hb⟩; refine ⟨_, rfl, ?_⟩; replace HO_667002 := zr HO_667002 hb; replace BK663 := zk BK663 hb; replace BK664 := zk BK664 hb; replace BK666 := zk BK666 hb; replace BK667 := zk BK667 hb; replace HB := zb HB hb; (try clear hb); (try clear hb2); (try clear hk); (try clear hi); have hnb70 := NB667_664.out; have hnc70 := NB664_667.out; have hnb71 := NB667_666.out; have hnc71 := NB666_667.out; obtain ⟨hcz72_0, hcz72_1, hcz72_2, hcz72_3, hfz72_0, hfz72_1, hfz72_2, hfz72_3⟩ := zq4 BK667; obtain ⟨hcz73_0, hcz73_1, hcz73_2, hfz73_0, hfz73_1, hfz73_2⟩ := zq3 BK663) | ((with_reducible refine gate_callee (f := 44) rfl ?_); refine goesL_ (some 88) rfl rfl Try.func44 (by kernel_rfl) rfl #[.agg #[.int .i64 a0_0, .int .i64 a0_1, .slice A0_2 l0_2.length c0_2], .int .i64 (wrap64 ((wrap64 (a0_0 - 1)) - x9_4)), .int .i64 (wrap64 ((wrap64 (a0_1 - 1)) - x8_3))] rfl (by (try simp only [List.map_toArray, List.map_cons, List.map_nil]); first | done | rfl | (simp only [List.length_drop, List.length_take]; rfl)) ?_; (with_reducible refine (imageeditorref11_Pick.calls a0_0 a0_1 _ _ l0_2 (wrap64 ((wrap64 (a0_0 - 1)) - x9_4)) (wrap64 ((wrap64 (a0_1 - 1)) - x8_3)) t680 t681 t682 t683 _ ?side1 ?side2 A63.out).mono ?_); (case side1 => exact Kd.C_below HR0_2.out (by exact zbo HB GE667)); (case side2 => exact HC0_2.out); rintro e w74 ⟨rfl, hb⟩; refine ⟨_, rfl, ?_⟩; have n0_ := Aside0.mk (Kd.R_below (by exact zro' HO_667002 (fun k_ hk => hk)) hb); have n1_ := Aside0.mk (blk_below (g := gb667) (o := .cells #[.int .i64 t676, .int .i64 t677, .int .i64 t678, .int .i64 t679] 26 (0, 0)) (by exact zp BK667 rfl) hb); have n2_ := Aside0.mk (below_step (by exact zbo HB GE667) hb); replace BK663 := zfk BK663 NB663_667 hb; replace BK664 := zfk BK664 NB664_667 hb; replace BK666 := zfk BK666 NB666_667 hb; clear HO_667002; clear BK667; clear HB; have HO_667002 := n0_; have BK667 := n1_; have HB := n2_; clear n0_ n1_ n2_; (try clear hb); (try clear hb2); (try clear hk); (try clear hi); obtain ⟨hcz75_0, hcz75_1, hcz75_2, hcz75_3, hfz75_0, hfz75_1, hfz75_2, hfz75_3⟩ := zq4 BK667; have hnb76 := NB666_664.out; have hnc76 := NB664_666.out; obtain ⟨hcz77_0, hcz77_1, hcz77_2, hfz77_0, hfz77_1, hfz77_2⟩ := zq3 BK666) | ((with_reducible refine gate_builtin (b := .append) (xs := #[.tmp 90, .tmp 92]) rfl ?_); at_builtin; refine Kd.R_append k26 (w0 := w) w.heap.size rfl (.tmp 90) (.tmp 92) 22 26 (.agg #[(.int .i64 0), (.int .i64 0), (.int .i64 0), (.int .i64 0)]) 32 rfl Try.underlying22 info26 rfl (by decide) (by omega) u667002 x667002_4 (⟨t680, t681, t682, t683⟩ : S26) [.int .i64 t680, .int .i64 t681, .int .i64 t682, .int .i64 t683] (fun k_ => k_ ≠ gb667) (fun _ => False) rfl (by first | (go_simp; done) | (go_simp; rfl)) ?aP (fun _ hk => hk.elim) ?aF ?aO ?aB ?aS ?aL ?_; (case aP => exact k26_mkM _ _ _ (⟨t680, t681, t682, t683⟩ : S26)); (case aB => exact (by exact zbo HB GE667)); (case aF => exact (fun k_ hk => Kd.freshB (g := gb667) (o := .cells #[.int .i64 t680, .int .i64 t681, .int .i64 t682, .int .i64 t683] 26 (0, 0)) (by exact zp BK667 rfl) k_ hk)); (case aO => exact (by exact zro' HO_667002 (fun k_ hk => hk))); (case aS => exact (below_size (by exact zbo HB GE667))); (case aL => have := LMc64.out; omega); intro v685 w78 ho hb hg hat; rw [← Ny684.out] at ho; have n0_ := Aside0.mk (blk_grown (zf BK663 NB663_667) hg (Kd.R_ne HO_667002.out BK663.out (by decide))); have n1_ := Aside0.mk (blk_grown (zf BK664 NB664_667) hg (Kd.R_ne HO_667002.out BK664.out (by decide))); have n2_ := Aside0.mk (blk_grown (zf BK666 NB666_667) hg (Kd.R_ne HO_667002.out BK666.out (by decide))); have n3_ := Aside0.mk (blk_grown (g := gb667) (o := .cells #[.int .i64 t680, .int .i64 t681, .int .i64 t682, .int .i64 t683] 26 (0, 0)) (by exact zp BK667 rfl) hg (Kd.R_away HO_667002.out (fun _ hk => hk))); have n4_ := Aside0.mk (hb); have n5_ := Aside0.mk (ho); clear BK663; clear BK664; clear BK666; clear BK667; clear HB; clear HO_667002; have BK663 := n0_; have BK664 := n1_; have BK666 := n2_; have BK667 := n3_; have HB := n4_; have HO686 := n5_; clear n0_ n1_ n2_ n3_ n4_ n5_; clear ho hb hg hat; obtain ⟨Ao79, co79, eo79⟩ := Kd.R_slice HO686.out; subst eo79; obtain ⟨hcz80_0, hcz80_1, hcz80_2, hfz80_0, hfz80_1, hfz80_2⟩ := zq3 BK666))
                    go_roundg kj48
                    case measure => have := HJ4.out; have := HJ13.out; have := HK3.out; have := HK4.out; have := HJ29.out; have := HJ48.out; omega
                    case rel => exact ⟨(wrap64 (x9_4 + 1)), (y684), (.slice Ao79 y684.length co79), (by first | rfl | (simp; done) | (simp [*]; done)), H', ⟨by have := HJ4.out; have := HJ13.out; have := HK3.out; have := HK4.out; have := HJ29.out; have := HJ48.out; omega⟩, ⟨by (with_reducible repeat (first | apply Kd.R_alloc | apply Kd.R_drewN | apply Kd.R_drew)); exact Kd.R_mono (Kd.R_far (p := ⟨gb666, 2, none⟩) (Kd.R_types HO686.out BK666.out (by decide)) (fun _ hk => hk.2) (.slice Ao79 y684.length co79)) (fun _ hk => trivial)⟩, ⟨by exact zf BK663 NB663_666⟩, ⟨by exact zf BK664 NB664_666⟩, ⟨by exact zp BK666 rfl⟩, ⟨by exact zbo HB GE666⟩⟩
                   ·rw [if_neg c64] at H
                    exact absurd H (by simp)
                  ·rw [if_neg c62] at H
                   have c62b0 : (a1 == 4) = false := beq_eq_false_iff_ne.mpr c62
                   have c62b1 : (a1 != 4) = true := bne_iff_ne.mpr c62
                   by_cases c81 : x667002_4.length < 4398046511104
                   ·rw [if_pos c81] at H
                    have LMc81 := Aside0.mk c81
                    clear c81
                    obtain ⟨y687, hy687⟩ : ∃ y_ : List (S26), y_ = (x667002_4 ++ [(⟨t676, t677, t678, t679⟩ : S26)]) := ⟨_, rfl⟩
                    replace H : (imageeditorref11_Flip.l1 kj48 a1 x8_3 (wrap64 (x9_4 + 1)) a0_0 a0_1 l0_2 x667000_13 x667001_13 y687) = some (r1, r2, r3, r4) := by first | (rw [hy687]; with_reducible exact H) | (have H2_ := (Option.bind_some _ _).symm.trans H; rw [hy687]; with_reducible exact H2_) | (have H2_ := (Option.bind_some _ _).symm.trans H; with_reducible exact H2_) | with_reducible exact H | (rw [hy687]; exact H) | exact H
                    have Ny687 := Aside0.mk hy687
                    clear hy687
                    have H' := Aside0.mk H
                    clear H
                    have hnb82 := NB663_664.out
                    have hnc82 := NB664_663.out
                    have hnb83 := NB663_666.out
                    have hnc83 := NB666_663.out
                    have hnb84 := NB663_667.out
                    have hnc84 := NB667_663.out
                    obtain ⟨hcz85_0, hcz85_1, hcz85_2, hfz85_0, hfz85_1, hfz85_2⟩ := zq3 BK663
                    go_wp2_with (first | ((with_reducible refine gate_callee (f := 44) rfl ?_); refine goesL_ (some 74) rfl rfl Try.func44 (by kernel_rfl) rfl #[.agg #[.int .i64 a0_0, .int .i64 a0_1, .slice A0_2 l0_2.length c0_2], .int .i64 x8_3, .int .i64 x9_4] rfl (by (try simp only [List.map_toArray, List.map_cons, List.map_nil]); first | done | rfl | (simp only [List.length_drop, List.length_take]; rfl)) ?_; (with_reducible refine (imageeditorref11_Pick.calls a0_0 a0_1 _ _ l0_2 x8_3 x9_4 t676 t677 t678 t679 _ ?side1 ?side2 A61.out).mono ?_); (case side1 => repeat (first | exact (Kd.C_below HR0_2.out HB.out) | (with_reducible refine Kd.C_alloc ?_ _) | (with_reducible refine Kd.C_drewN ?_ _) | (with_reducible refine Kd.C_drew ?_))); (case side2 => exact HC0_2.out); rintro e w86 ⟨rfl, hb⟩; refine ⟨_, rfl, ?_⟩; replace HO_667002 := zr HO_667002 hb; replace BK663 := zk BK663 hb; replace BK664 := zk BK664 hb; replace BK666 := zk BK666 hb; replace BK667 := zk BK667 hb; replace HB := zb HB hb; (try clear hb); (try clear hb2); (try clear hk); (try clear hi); have hnb87 := NB667_664.out; have hnc87 := NB664_667.out; have hnb88 := NB667_666.out; have hnc88 := NB666_667.out; obtain ⟨hcz89_0, hcz89_1, hcz89_2, hcz89_3, hfz89_0, hfz89_1, hfz89_2, hfz89_3⟩ := zq4 BK667; have hnb90 := NB666_664.out; have hnc90 := NB664_666.out; obtain ⟨hcz91_0, hcz91_1, hcz91_2, hfz91_0, hfz91_1, hfz91_2⟩ := zq3 BK666) | ((with_reducible refine gate_builtin (b := .append) (xs := #[.tmp 90, .tmp 92]) rfl ?_); at_builtin; refine Kd.R_append k26 (w0 := w) w.heap.size rfl (.tmp 90) (.tmp 92) 22 26 (.agg #[(.int .i64 0), (.int .i64 0), (.int .i64 0), (.int .i64 0)]) 32 rfl Try.underlying22 info26 rfl (by decide) (by omega) u667002 x667002_4 (⟨t676, t677, t678, t679⟩ : S26) [.int .i64 t676, .int .i64 t677, .int .i64 t678, .int .i64 t679] (fun k_ => k_ ≠ gb667) (fun _ => False) rfl (by first | (go_simp; done) | (go_simp; rfl)) ?aP (fun _ hk => hk.elim) ?aF ?aO ?aB ?aS ?aL ?_; (case aP => exact k26_mkM _ _ _ (⟨t676, t677, t678, t679⟩ : S26)); (case aB => exact (by exact zbo HB GE667)); (case aF => exact (fun k_ hk => Kd.freshB (g := gb667) (o := .cells #[.int .i64 t676, .int .i64 t677, .int .i64 t678, .int .i64 t679] 26 (0, 0)) (by exact zp BK667 rfl) k_ hk)); (case aO => exact (by exact zro' HO_667002 (fun k_ hk => hk))); (case aS => exact (below_size (by exact zbo HB GE667))); (case aL => have := LMc81.out; omega); intro v688 w92 ho hb hg hat; rw [← Ny687.out] at ho; have n0_ := Aside0.mk (blk_grown (zf BK663 NB663_667) hg (Kd.R_ne HO_667002.out BK663.out (by decide))); have n1_ := Aside0.mk (blk_grown (zf BK664 NB664_667) hg (Kd.R_ne HO_667002.out BK664.out (by decide))); have n2_ := Aside0.mk (blk_grown (zf BK666 NB666_667) hg (Kd.R_ne HO_667002.out BK666.out (by decide))); have n3_ := Aside0.mk (blk_grown (g := gb667) (o := .cells #[.int .i64 t676, .int .i64 t677, .int .i64 t678, .int .i64 t679] 26 (0, 0)) (by exact zp BK667 rfl) hg (Kd.R_away HO_667002.out (fun _ hk => hk))); have n4_ := Aside0.mk (hb); have n5_ := Aside0.mk (ho); clear BK663; clear BK664; clear BK666; clear BK667; clear HB; clear HO_667002; have BK663 := n0_; have BK664 := n1_; have BK666 := n2_; have BK667 := n3_; have HB := n4_; have HO689 := n5_; clear n0_ n1_ n2_ n3_ n4_ n5_; clear ho hb hg hat; obtain ⟨Ao93, co93, eo93⟩ := Kd.R_slice HO689.out; subst eo93; obtain ⟨hcz94_0, hcz94_1, hcz94_2, hfz94_0, hfz94_1, hfz94_2⟩ := zq3 BK666))
                    go_roundg kj48
                    case measure => have := HJ4.out; have := HJ13.out; have := HK3.out; have := HK4.out; have := HJ29.out; have := HJ48.out; omega
                    case rel => exact ⟨(wrap64 (x9_4 + 1)), (y687), (.slice Ao93 y687.length co93), (by first | rfl | (simp; done) | (simp [*]; done)), H', ⟨by have := HJ4.out; have := HJ13.out; have := HK3.out; have := HK4.out; have := HJ29.out; have := HJ48.out; omega⟩, ⟨by (with_reducible repeat (first | apply Kd.R_alloc | apply Kd.R_drewN | apply Kd.R_drew)); exact Kd.R_mono (Kd.R_far (p := ⟨gb666, 2, none⟩) (Kd.R_types HO689.out BK666.out (by decide)) (fun _ hk => hk.2) (.slice Ao93 y687.length co93)) (fun _ hk => trivial)⟩, ⟨by exact zf BK663 NB663_666⟩, ⟨by exact zf BK664 NB664_666⟩, ⟨by exact zp BK666 rfl⟩, ⟨by exact zbo HB GE666⟩⟩
                   ·rw [if_neg c81] at H
                    exact absurd H (by simp)
                 ·rw [if_neg c60] at H
                  have c60b0 : (a1 == 3) = false := beq_eq_false_iff_ne.mpr c60
                  have c60b1 : (a1 != 3) = true := bne_iff_ne.mpr c60
                  by_cases c95 : a1 = 4
                  ·rw [if_pos c95] at H
                   have c95b0 : (a1 == 4) = true := beq_iff_eq.mpr c95
                   have c95b1 : (a1 != 4) = false := bne_eq_false_iff_eq.mpr c95
                   clear c95
                   replace H := Option.bind_eq_some_iff.mp H
                   obtain ⟨⟨t690, t691, t692, t693⟩, A960, H⟩ := H
                   replace H : (if x667002_4.length < 4398046511104 then (imageeditorref11_Flip.l1 kj48 a1 x8_3 (wrap64 (x9_4 + 1)) a0_0 a0_1 l0_2 x667000_13 x667001_13 (x667002_4 ++ [(⟨t690, t691, t692, t693⟩ : S26)])) else (none)) = some (r1, r2, r3, r4) := H
                   have A96 := Aside0.mk A960
                   clear A960
                   by_cases c97 : x667002_4.length < 4398046511104
                   ·rw [if_pos c97] at H
                    have LMc97 := Aside0.mk c97
                    clear c97
                    obtain ⟨y694, hy694⟩ : ∃ y_ : List (S26), y_ = (x667002_4 ++ [(⟨t690, t691, t692, t693⟩ : S26)]) := ⟨_, rfl⟩
                    replace H : (imageeditorref11_Flip.l1 kj48 a1 x8_3 (wrap64 (x9_4 + 1)) a0_0 a0_1 l0_2 x667000_13 x667001_13 y694) = some (r1, r2, r3, r4) := by first | (rw [hy694]; with_reducible exact H) | (have H2_ := (Option.bind_some _ _).symm.trans H; rw [hy694]; with_reducible exact H2_) | (have H2_ := (Option.bind_some _ _).symm.trans H; with_reducible exact H2_) | with_reducible exact H | (rw [hy694]; exact H) | exact H
                    have Ny694 := Aside0.mk hy694
                    clear hy694
                    have H' := Aside0.mk H
                    clear H
                    have hnb98 := NB663_664.out
                    have hnc98 := NB664_663.out
                    have hnb99 := NB663_666.out
                    have hnc99 := NB666_663.out
                    have hnb100 := NB663_667.out
                    have hnc100 := NB667_663.out
                    obtain ⟨hcz101_0, hcz101_1, hcz101_2, hfz101_0, hfz101_1, hfz101_2⟩ := zq3 BK663
                    go_wp2_with (first | ((with_reducible refine gate_callee (f := 44) rfl ?_); refine goesL_ (some 88) rfl rfl Try.func44 (by kernel_rfl) rfl #[.agg #[.int .i64 a0_0, .int .i64 a0_1, .slice A0_2 l0_2.length c0_2], .int .i64 (wrap64 ((wrap64 (a0_0 - 1)) - x9_4)), .int .i64 (wrap64 ((wrap64 (a0_1 - 1)) - x8_3))] rfl (by (try simp only [List.map_toArray, List.map_cons, List.map_nil]); first | done | rfl | (simp only [List.length_drop, List.length_take]; rfl)) ?_; (with_reducible refine (imageeditorref11_Pick.calls a0_0 a0_1 _ _ l0_2 (wrap64 ((wrap64 (a0_0 - 1)) - x9_4)) (wrap64 ((wrap64 (a0_1 - 1)) - x8_3)) t690 t691 t692 t693 _ ?side1 ?side2 A96.out).mono ?_); (case side1 => repeat (first | exact (Kd.C_below HR0_2.out HB.out) | (with_reducible refine Kd.C_alloc ?_ _) | (with_reducible refine Kd.C_drewN ?_ _) | (with_reducible refine Kd.C_drew ?_))); (case side2 => exact HC0_2.out); rintro e w102 ⟨rfl, hb⟩; refine ⟨_, rfl, ?_⟩; replace HO_667002 := zr HO_667002 hb; replace BK663 := zk BK663 hb; replace BK664 := zk BK664 hb; replace BK666 := zk BK666 hb; replace BK667 := zk BK667 hb; replace HB := zb HB hb; (try clear hb); (try clear hb2); (try clear hk); (try clear hi); have hnb103 := NB667_664.out; have hnc103 := NB664_667.out; have hnb104 := NB667_666.out; have hnc104 := NB666_667.out; obtain ⟨hcz105_0, hcz105_1, hcz105_2, hcz105_3, hfz105_0, hfz105_1, hfz105_2, hfz105_3⟩ := zq4 BK667; have hnb106 := NB666_664.out; have hnc106 := NB664_666.out; obtain ⟨hcz107_0, hcz107_1, hcz107_2, hfz107_0, hfz107_1, hfz107_2⟩ := zq3 BK666) | ((with_reducible refine gate_builtin (b := .append) (xs := #[.tmp 90, .tmp 92]) rfl ?_); at_builtin; refine Kd.R_append k26 (w0 := w) w.heap.size rfl (.tmp 90) (.tmp 92) 22 26 (.agg #[(.int .i64 0), (.int .i64 0), (.int .i64 0), (.int .i64 0)]) 32 rfl Try.underlying22 info26 rfl (by decide) (by omega) u667002 x667002_4 (⟨t690, t691, t692, t693⟩ : S26) [.int .i64 t690, .int .i64 t691, .int .i64 t692, .int .i64 t693] (fun k_ => k_ ≠ gb667) (fun _ => False) rfl (by first | (go_simp; done) | (go_simp; rfl)) ?aP (fun _ hk => hk.elim) ?aF ?aO ?aB ?aS ?aL ?_; (case aP => exact k26_mkM _ _ _ (⟨t690, t691, t692, t693⟩ : S26)); (case aB => exact (by exact zbo HB GE667)); (case aF => exact (fun k_ hk => Kd.freshB (g := gb667) (o := .cells #[.int .i64 t690, .int .i64 t691, .int .i64 t692, .int .i64 t693] 26 (0, 0)) (by exact zp BK667 rfl) k_ hk)); (case aO => exact (by exact zro' HO_667002 (fun k_ hk => hk))); (case aS => exact (below_size (by exact zbo HB GE667))); (case aL => have := LMc97.out; omega); intro v695 w108 ho hb hg hat; rw [← Ny694.out] at ho; have n0_ := Aside0.mk (blk_grown (zf BK663 NB663_667) hg (Kd.R_ne HO_667002.out BK663.out (by decide))); have n1_ := Aside0.mk (blk_grown (zf BK664 NB664_667) hg (Kd.R_ne HO_667002.out BK664.out (by decide))); have n2_ := Aside0.mk (blk_grown (zf BK666 NB666_667) hg (Kd.R_ne HO_667002.out BK666.out (by decide))); have n3_ := Aside0.mk (blk_grown (g := gb667) (o := .cells #[.int .i64 t690, .int .i64 t691, .int .i64 t692, .int .i64 t693] 26 (0, 0)) (by exact zp BK667 rfl) hg (Kd.R_away HO_667002.out (fun _ hk => hk))); have n4_ := Aside0.mk (hb); have n5_ := Aside0.mk (ho); clear BK663; clear BK664; clear BK666; clear BK667; clear HB; clear HO_667002; have BK663 := n0_; have BK664 := n1_; have BK666 := n2_; have BK667 := n3_; have HB := n4_; have HO696 := n5_; clear n0_ n1_ n2_ n3_ n4_ n5_; clear ho hb hg hat; obtain ⟨Ao109, co109, eo109⟩ := Kd.R_slice HO696.out; subst eo109; obtain ⟨hcz110_0, hcz110_1, hcz110_2, hfz110_0, hfz110_1, hfz110_2⟩ := zq3 BK666))
                    go_roundg kj48
                    case measure => have := HJ4.out; have := HJ13.out; have := HK3.out; have := HK4.out; have := HJ29.out; have := HJ48.out; omega
                    case rel => exact ⟨(wrap64 (x9_4 + 1)), (y694), (.slice Ao109 y694.length co109), (by first | rfl | (simp; done) | (simp [*]; done)), H', ⟨by have := HJ4.out; have := HJ13.out; have := HK3.out; have := HK4.out; have := HJ29.out; have := HJ48.out; omega⟩, ⟨by (with_reducible repeat (first | apply Kd.R_alloc | apply Kd.R_drewN | apply Kd.R_drew)); exact Kd.R_mono (Kd.R_far (p := ⟨gb666, 2, none⟩) (Kd.R_types HO696.out BK666.out (by decide)) (fun _ hk => hk.2) (.slice Ao109 y694.length co109)) (fun _ hk => trivial)⟩, ⟨by exact zf BK663 NB663_666⟩, ⟨by exact zf BK664 NB664_666⟩, ⟨by exact zp BK666 rfl⟩, ⟨by exact zbo HB GE666⟩⟩
                   ·rw [if_neg c97] at H
                    exact absurd H (by simp)
                  ·rw [if_neg c95] at H
                   have c95b0 : (a1 == 4) = false := beq_eq_false_iff_ne.mpr c95
                   have c95b1 : (a1 != 4) = true := bne_iff_ne.mpr c95
                   by_cases c111 : x667002_4.length < 4398046511104
                   ·rw [if_pos c111] at H
                    have LMc111 := Aside0.mk c111
                    clear c111
                    obtain ⟨y697, hy697⟩ : ∃ y_ : List (S26), y_ = (x667002_4 ++ [(⟨x668000_48, x668001_48, x668002_48, x668003_48⟩ : S26)]) := ⟨_, rfl⟩
                    replace H : (imageeditorref11_Flip.l1 kj48 a1 x8_3 (wrap64 (x9_4 + 1)) a0_0 a0_1 l0_2 x667000_13 x667001_13 y697) = some (r1, r2, r3, r4) := by first | (rw [hy697]; with_reducible exact H) | (have H2_ := (Option.bind_some _ _).symm.trans H; rw [hy697]; with_reducible exact H2_) | (have H2_ := (Option.bind_some _ _).symm.trans H; with_reducible exact H2_) | with_reducible exact H | (rw [hy697]; exact H) | exact H
                    have Ny697 := Aside0.mk hy697
                    clear hy697
                    have H' := Aside0.mk H
                    clear H
                    have hnb112 := NB666_663.out
                    have hnc112 := NB663_666.out
                    have hnb113 := NB666_664.out
                    have hnc113 := NB664_666.out
                    have hnb114 := NB666_667.out
                    have hnc114 := NB667_666.out
                    obtain ⟨hcz115_0, hcz115_1, hcz115_2, hfz115_0, hfz115_1, hfz115_2⟩ := zq3 BK666
                    have hnb116 := NB667_663.out
                    have hnc116 := NB663_667.out
                    have hnb117 := NB667_664.out
                    have hnc117 := NB664_667.out
                    obtain ⟨hcz118_0, hcz118_1, hcz118_2, hcz118_3, hfz118_0, hfz118_1, hfz118_2, hfz118_3⟩ := zq4 BK667
                    go_wp2_with (first | ((with_reducible refine gate_builtin (b := .append) (xs := #[.tmp 90, .tmp 92]) rfl ?_); at_builtin; refine Kd.R_append k26 (w0 := w) w.heap.size rfl (.tmp 90) (.tmp 92) 22 26 (.agg #[(.int .i64 0), (.int .i64 0), (.int .i64 0), (.int .i64 0)]) 32 rfl Try.underlying22 info26 rfl (by decide) (by omega) u667002 x667002_4 (⟨x668000_48, x668001_48, x668002_48, x668003_48⟩ : S26) [.int .i64 x668000_48, .int .i64 x668001_48, .int .i64 x668002_48, .int .i64 x668003_48] (fun k_ => k_ ≠ gb667) (fun _ => False) rfl rfl ?aP (fun _ hk => hk.elim) ?aF ?aO ?aB ?aS ?aL ?_; (case aP => exact k26_mkM _ _ _ (⟨x668000_48, x668001_48, x668002_48, x668003_48⟩ : S26)); (case aB => exact (by exact zb0 HB)); (case aF => exact (fun k_ hk => Kd.freshB (zk0 BK667) k_ hk)); (case aO => exact (by exact zr0 HO_667002)); (case aS => exact (below_size (by exact zb0 HB))); (case aL => have := LMc111.out; omega); intro v698 w119 ho hb hg hat; rw [← Ny697.out] at ho; have n0_ := Aside0.mk (blk_grown (zk0 BK663) hg (Kd.R_ne HO_667002.out BK663.out (by decide))); have n1_ := Aside0.mk (blk_grown (zk0 BK664) hg (Kd.R_ne HO_667002.out BK664.out (by decide))); have n2_ := Aside0.mk (blk_grown (zk0 BK666) hg (Kd.R_ne HO_667002.out BK666.out (by decide))); have n3_ := Aside0.mk (blk_grown (zk0 BK667) hg (Kd.R_away HO_667002.out (fun _ hk => hk))); have n4_ := Aside0.mk (hb); have n5_ := Aside0.mk (ho); clear BK663; clear BK664; clear BK666; clear BK667; clear HB; clear HO_667002; have BK663 := n0_; have BK664 := n1_; have BK666 := n2_; have BK667 := n3_; have HB := n4_; have HO699 := n5_; clear n0_ n1_ n2_ n3_ n4_ n5_; clear ho hb hg hat; obtain ⟨Ao120, co120, eo120⟩ := Kd.R_slice HO699.out; subst eo120; obtain ⟨hcz121_0, hcz121_1, hcz121_2, hfz121_0, hfz121_1, hfz121_2⟩ := zq3 BK666))
                    go_roundg kj48
                    case measure => have := HJ4.out; have := HJ13.out; have := HK3.out; have := HK4.out; have := HJ29.out; have := HJ48.out; omega
                    case rel => exact ⟨(wrap64 (x9_4 + 1)), (y697), (.slice Ao120 y697.length co120), (by first | rfl | (simp; done) | (simp [*]; done)), H', ⟨by have := HJ4.out; have := HJ13.out; have := HK3.out; have := HK4.out; have := HJ29.out; have := HJ48.out; omega⟩, ⟨by (with_reducible repeat (first | apply Kd.R_alloc | apply Kd.R_drewN | apply Kd.R_drew)); exact Kd.R_mono (Kd.R_far (p := ⟨gb666, 2, none⟩) (Kd.R_types HO699.out BK666.out (by decide)) (fun _ hk => hk.2) (.slice Ao120 y697.length co120)) (fun _ hk => trivial)⟩, ⟨by exact zf BK663 NB663_666⟩, ⟨by exact zf BK664 NB664_666⟩, ⟨by exact zp BK666 rfl⟩, ⟨by exact zbo HB GE666⟩⟩
                   ·rw [if_neg c111] at H
                    exact absurd H (by simp)
            ·rw [if_neg c29] at H
             have c29b0 : decide (x9_4 < x667000_13) = false := decide_eq_false c29
             clear c29
             have H' := Aside0.mk H
             clear H
             obtain ⟨hcz122_0, hcz122_1, hcz122_2, hfz122_0, hfz122_1, hfz122_2⟩ := zq3 BK666
             go_wp2
             go_roundg k4
             case measure => have := HJ4.out; have := HJ13.out; have := HK3.out; have := HK4.out; omega
             case rel => exact ⟨(wrap64 (x8_3 + 1)), (x667002_4), (u667002), (by first | rfl | (simp; done) | (simp [*]; done)), H', ⟨by have := HJ4.out; have := HJ13.out; have := HK3.out; have := HK4.out; omega⟩, ⟨by exact zr0 HO_667002⟩, ⟨by exact zk0 BK663⟩, ⟨by exact zk0 BK664⟩, ⟨by exact zk0 BK666⟩, ⟨by exact zb0 HB⟩⟩
         ·rw [if_neg c27] at H
          have c27b0 : decide (x8_3 < x667001_13) = false := decide_eq_false c27
          clear c27
          simp only [Option.some.injEq, Prod.mk.injEq] at H
          obtain ⟨rfl, rfl, rfl, rfl⟩ := H
          have hnb123 := NB666_663.out
          have hnc123 := NB663_666.out
          have hnb124 := NB666_664.out
          have hnc124 := NB664_666.out
          obtain ⟨hcz125_0, hcz125_1, hcz125_2, hfz125_0, hfz125_1, hfz125_2⟩ := zq3 BK666
          have hnb126 := NB664_663.out
          have hnc126 := NB663_664.out
          obtain ⟨hcz127_0, hcz127_1, hcz127_2, hfz127_0, hfz127_1, hfz127_2⟩ := zq3 BK664
          obtain ⟨Ao128, co128, eo128⟩ := Kd.R_slice HO_667002.out
          subst eo128
          go_wp2
          refine bodyPost_ret (results_ct rfl _ _ gb664 24 #[.int .i64 x667000_13, .int .i64 x667001_13, .slice Ao128 x667002_3.length co128] (0, 0) _ rfl (by exact zp BK664 rfl) Try.underlying24 rfl (by kernel_rfl)) rfl ?_
          exact ⟨_, by first | rfl | (simp [errW_none, errW_some] <;> rfl) | (simp [*, errW_none, errW_some] <;> rfl), by exact zro HO_667002 BK664 (by decide), by exact zbo HB GE664⟩
 ·rw [if_neg c4] at H
  have c4b0 : (t665 == 0) = false := beq_eq_false_iff_ne.mpr c4
  have c4b1 : (t665 != 0) = true := bne_iff_ne.mpr c4
  simp only [Option.some.injEq, Prod.mk.injEq] at H
  obtain ⟨rfl, rfl, rfl, rfl⟩ := H
  go_enter Try.func32, Try.ntmps32
  go_wp2_with (first | ((with_reducible refine gate_dst (N := 2) rfl ?_); refine box_event ?hg (N := 2) ?hd (cs := #[.int .i64 a0_0, .int .i64 a0_1, .slice A0_2 l0_2.length c0_2]) (t := 24) ?hr ?_; (case hd => rfl); (case hg => rfl); (case hr => first | (go_simp; done) | (go_simp; rfl)); intro gb663 hg w129 hbox hb; have GW663 := zg HB hg; have GE663 := zg HB hg; have n0_ := Aside0.mk (hbox); replace HB := zb HB hb; have BK663 := n0_; clear n0_; clear hb hbox hg) | ((with_reducible refine gate_dst (N := 4) rfl ?_); refine box_event ?hg (N := 4) ?hd (cs := #[.int .i64 0, .int .i64 0, .slice none 0 0]) (t := 24) ?hr ?_; (case hd => rfl); (case hg => rfl); (case hr => first | (go_simp; done) | (go_simp; rfl)); intro gb664 hg w130 hbox hb; have GW664 := zg HB hg; have GE664 := zg HB hg; have NB663_664 := zn BK663 hg; have NB664_663 := zn' BK663 hg; have n0_ := Aside0.mk (hbox); replace BK663 := zk BK663 hb; replace HB := zb HB hb; have BK664 := n0_; clear n0_; clear hb hbox hg; have hnb131 := NB663_664.out; have hnc131 := NB664_663.out; obtain ⟨hcz132_0, hcz132_1, hcz132_2, hfz132_0, hfz132_1, hfz132_2⟩ := zq3 BK663) | ((with_reducible refine gate_callee (f := 19) rfl ?_); refine goesL_ (some 12) rfl rfl Try.func19 (by kernel_rfl) rfl #[.agg #[.int .i64 a0_0, .int .i64 a0_1, .slice A0_2 l0_2.length c0_2]] rfl (by (try simp only [List.map_toArray, List.map_cons, List.map_nil]); first | done | rfl | (simp only [List.length_drop, List.length_take]; rfl)) ?_; (with_reducible refine (imageeditorref11_Check.calls k a0_0 a0_1 _ _ l0_2 t665 _ ?side1 ?side2 A3.out).mono ?_); (case side1 => repeat (first | exact (Kd.C_below HR0_2.out HB.out) | (with_reducible refine Kd.C_alloc ?_ _) | (with_reducible refine Kd.C_drewN ?_ _) | (with_reducible refine Kd.C_drew ?_))); (case side2 => exact HC0_2.out); rintro e w133 ⟨rfl, hb⟩; refine ⟨_, rfl, ?_⟩; replace BK663 := zk BK663 hb; replace BK664 := zk BK664 hb; replace HB := zb HB hb; (try clear hb); (try clear hb2); (try clear hk); (try clear hi); obtain ⟨hcz134_0, hcz134_1, hcz134_2, hfz134_0, hfz134_1, hfz134_2⟩ := zq3 BK664))
  refine bodyPost_ret (results_ct rfl _ _ gb664 24 #[.int .i64 0, .int .i64 0, .slice none 0 0] (0, 0) _ rfl (by exact zp BK664 rfl) Try.underlying24 rfl (by kernel_rfl)) rfl ?_
  exact ⟨_, by first | rfl | (simp [errW_none, errW_some] <;> rfl) | (simp [*, errW_none, errW_some] <;> rfl), by first | exact Kd.R_nil _ _ _ _ _ | exact Kd.N_nil _ _ _ _ _ | exact Kd.V_nil _ _ _ _ _ | exact Kd.Q_nil _ _ _ _ _ | exact Kd.S_nil _ _ _ _ _, by exact zbo HB GE664⟩

/-! ### imageeditorref02_span: function 61 -/
def imageeditorref02_span.j0 : Nat → Int → Bool → Int → Int → Int → Int → Option (Int × Int)
 | 0, _, _, _, _, _, _ => none
 | k + 1, x1, x18, x701000, x701001, x701002, x701003 => if x18 = true then (some (0, (-1))) else (if x1 = 0 then (some (x701000, wrap64 ((wrap64 (x701000 + x701002)) - 1))) else (some (x701001, wrap64 ((wrap64 (x701001 + x701003)) - 1))))
def imageeditorref02_span.f (k : Nat) (a0_0 : Int) (a0_1 : Int) (a0_2 : Int) (a0_3 : Int) (a1 : Int) : Option (Int × Int) := (imageeditorref02_Valid.f a0_0 a0_1 a0_2 a0_3).bind fun t701 => (if t701 = true then (if a0_2 = 0 then (imageeditorref02_span.j0 k a1 true a0_0 a0_1 a0_2 a0_3) else (imageeditorref02_span.j0 k a1 (a0_3 == 0) a0_0 a0_1 a0_2 a0_3)) else (imageeditorref02_span.j0 k a1 true a0_0 a0_1 a0_2 a0_3))
theorem imageeditorref02_span.mono_l : ∀ k, (∀ y0 y1 y2 y3 y4 y5, LeO (imageeditorref02_span.j0 k y0 y1 y2 y3 y4 y5) (imageeditorref02_span.j0 (k + 1) y0 y1 y2 y3 y4 y5))
 | 0 => fun _ _ _ _ _ _ r h => by simp [imageeditorref02_span.j0] at h
 | k + 1 => by
  have ih0 := imageeditorref02_span.mono_l k
  ·intro y0 y1 y2 y3 y4 y5
   unfold imageeditorref02_span.j0
   repeat' first
   | (with_reducible exact ih0 _ _ _ _ _ _)
   | (with_reducible exact LeO.refl _)
   | (with_reducible exact LeO.none _)
   | (with_reducible refine LeO.ite ?_ ?_)
   | (with_reducible refine LeO.bind ?_ (fun _ => ?_))
   | exact ih0 _ _ _ _ _ _
   | exact LeO.none _
   | refine LeO.ite ?_ ?_
   | refine LeO.bind ?_ (fun _ => ?_)
theorem imageeditorref02_span.mono : ∀ a0 a1 a2 a3 a4 k, LeO (imageeditorref02_span.f k a0 a1 a2 a3 a4) (imageeditorref02_span.f (k + 1) a0 a1 a2 a3 a4) := by
 intro a0 a1 a2 a3 a4 k
 have ih0 := imageeditorref02_span.mono_l k
 unfold imageeditorref02_span.f
 repeat' first
   | (with_reducible exact ih0 _ _ _ _ _ _)
   | (with_reducible exact LeO.refl _)
   | (with_reducible exact LeO.none _)
   | (with_reducible refine LeO.ite ?_ ?_)
   | (with_reducible refine LeO.bind ?_ (fun _ => ?_))
   | exact ih0 _ _ _ _ _ _
   | exact LeO.none _
   | refine LeO.ite ?_ ?_
   | refine LeO.bind ?_ (fun _ => ?_)
set_option maxHeartbeats 8000000 in
set_option maxRecDepth 100000 in
theorem imageeditorref02_span.calls (k : Nat) (a0_0 : Int) (a0_1 : Int) (a0_2 : Int) (a0_3 : Int) (a1 : Int) (r1 : Int) (r2 : Int) (w : World) (h : imageeditorref02_span.f k a0_0 a0_1 a0_2 a0_3 a1 = some (r1, r2)) :
  Calls Try.prog 61 #[.agg #[.int .i64 a0_0, .int .i64 a0_1, .int .i64 a0_2, .int .i64 a0_3], .int .i64 a1] w fun e w' => e = .returned (.tuple #[.int .i64 r1, .int .i64 r2]) ∧ Below w.heap.size w w' := by
 have hu37 := Try.underlying37
 have HB := Aside0.mk (Below.refl w.heap.size w)
 have H : ((imageeditorref02_Valid.f a0_0 a0_1 a0_2 a0_3).bind fun t701 => (if t701 = true then (if a0_2 = 0 then (imageeditorref02_span.j0 k a1 true a0_0 a0_1 a0_2 a0_3) else (imageeditorref02_span.j0 k a1 (a0_3 == 0) a0_0 a0_1 a0_2 a0_3)) else (imageeditorref02_span.j0 k a1 true a0_0 a0_1 a0_2 a0_3))) = some (r1, r2) := h
 clear h
 have HC3 := Aside0.mk H
 clear H
 go_enter Try.func61, Try.ntmps61
 go_upto_region 1 with (first | ((with_reducible refine gate_dst (N := 2) rfl ?_); refine box_event ?hg (N := 2) ?hd (cs := #[.int .i64 a0_0, .int .i64 a0_1, .int .i64 a0_2, .int .i64 a0_3]) (t := 37) ?hr ?_; (case hd => rfl); (case hg => rfl); (case hr => first | (go_simp; done) | (go_simp; rfl)); intro gb700 hg w4 hbox hb; have GW700 := zg HB hg; have GE700 := zg HB hg; have n0_ := Aside0.mk (hbox); replace HB := zb HB hb; have BK700 := n0_; clear n0_; clear hb hbox hg))
 repeat (go_quiet (first | ((with_reducible refine gate_dst (N := 2) rfl ?_); refine box_event ?hg (N := 2) ?hd (cs := #[.int .i64 a0_0, .int .i64 a0_1, .int .i64 a0_2, .int .i64 a0_3]) (t := 37) ?hr ?_; (case hd => rfl); (case hg => rfl); (case hr => first | (go_simp; done) | (go_simp; rfl)); intro gb700 hg w4 hbox hb; have GW700 := zg HB hg; have GE700 := zg HB hg; have n0_ := Aside0.mk (hbox); replace HB := zb HB hb; have BK700 := n0_; clear n0_; clear hb hbox hg)); go_upto_region 1 with (first | ((with_reducible refine gate_dst (N := 2) rfl ?_); refine box_event ?hg (N := 2) ?hd (cs := #[.int .i64 a0_0, .int .i64 a0_1, .int .i64 a0_2, .int .i64 a0_3]) (t := 37) ?hr ?_; (case hd => rfl); (case hg => rfl); (case hr => first | (go_simp; done) | (go_simp; rfl)); intro gb700 hg w4 hbox hb; have GW700 := zg HB hg; have GE700 := zg HB hg; have n0_ := Aside0.mk (hbox); replace HB := zb HB hb; have BK700 := n0_; clear n0_; clear hb hbox hg)))
 (try simp only [Act.put, sA, sB, sC])
 go_cut [18] (fun v18 wc => ∃ (kq : Nat) (x18_2 : Bool), v18 = .bool x18_2 ∧ Aside0 (imageeditorref02_span.j0 kq a1 x18_2 a0_0 a0_1 a0_2 a0_3 = some (r1, r2)) ∧ Aside0 (kq ≤ k) ∧ Aside0 (wc.heap[gb700]? = some (.cells #[.int .i64 a0_0, .int .i64 a0_1, .int .i64 a0_2, .int .i64 a0_3] 37 (0, 0))) ∧ Aside0 (Below w.heap.size w wc))
 case first =>
  have H := HC3.out
  clear HC3
  replace H := Option.bind_eq_some_iff.mp H
  obtain ⟨t701, A50, H⟩ := H
  replace H : (if t701 = true then (if a0_2 = 0 then (imageeditorref02_span.j0 k a1 true a0_0 a0_1 a0_2 a0_3) else (imageeditorref02_span.j0 k a1 (a0_3 == 0) a0_0 a0_1 a0_2 a0_3)) else (imageeditorref02_span.j0 k a1 true a0_0 a0_1 a0_2 a0_3)) = some (r1, r2) := H
  have A5 := Aside0.mk A50
  clear A50
  by_cases c6 : t701 = true
  ·subst c6
   have H1 : (if a0_2 = 0 then (imageeditorref02_span.j0 k a1 true a0_0 a0_1 a0_2 a0_3) else (imageeditorref02_span.j0 k a1 (a0_3 == 0) a0_0 a0_1 a0_2 a0_3)) = some (r1, r2) := by rw [if_pos rfl] at H; exact H
   clear H
   have H := H1
   clear H1
   by_cases c7 : a0_2 = 0
   ·rw [if_pos c7] at H
    have c7b0 : (a0_2 == 0) = true := beq_iff_eq.mpr c7
    have c7b1 : (a0_2 != 0) = false := bne_eq_false_iff_eq.mpr c7
    clear c7
    (first | rw [c7b0] | (simp only [i64_w, i32_w]; rw [c7b0]) | skip)
    have H' := Aside0.mk H
    clear H
    obtain ⟨hcz8_0, hcz8_1, hcz8_2, hcz8_3, hfz8_0, hfz8_1, hfz8_2, hfz8_3⟩ := zq4 BK700
    go_wp2_with (first | (go_at_call 48; (with_reducible refine (imageeditorref02_Valid.calls a0_0 a0_1 a0_2 a0_3 true _ A5.out).mono ?_); rintro e w9 ⟨rfl, hb⟩; replace BK700 := zk BK700 hb; replace HB := zb HB hb; (try clear hb); (try clear hb2); (try clear hk); (try clear hi); obtain ⟨hcz10_0, hcz10_1, hcz10_2, hcz10_3, hfz10_0, hfz10_1, hfz10_2, hfz10_3⟩ := zq4 BK700))
    repeat (go_quiet (first | (go_at_call 48; (with_reducible refine (imageeditorref02_Valid.calls a0_0 a0_1 a0_2 a0_3 true _ A5.out).mono ?_); rintro e w9 ⟨rfl, hb⟩; replace BK700 := zk BK700 hb; replace HB := zb HB hb; (try clear hb); (try clear hb2); (try clear hk); (try clear hi); obtain ⟨hcz10_0, hcz10_1, hcz10_2, hcz10_3, hfz10_0, hfz10_1, hfz10_2, hfz10_3⟩ := zq4 BK700)); try go_wp2_with (first | (go_at_call 48; (with_reducible refine (imageeditorref02_Valid.calls a0_0 a0_1 a0_2 a0_3 true _ A5.out).mono ?_); rintro e w9 ⟨rfl, hb⟩; replace BK700 := zk BK700 hb; replace HB := zb HB hb; (try clear hb); (try clear hb2); (try clear hk); (try clear hi); obtain ⟨hcz10_0, hcz10_1, hcz10_2, hcz10_3, hfz10_0, hfz10_1, hfz10_2, hfz10_3⟩ := zq4 BK700)))
    go_meet
    case rel => exact ⟨_, (true), (by first | rfl | (simp; done) | (simp [*]; done)), H', ⟨by first | omega | exact Nat.le_refl _⟩, ⟨by exact zk0 BK700⟩, ⟨by exact zb0 HB⟩⟩
   ·rw [if_neg c7] at H
    have c7b0 : (a0_2 == 0) = false := beq_eq_false_iff_ne.mpr c7
    have c7b1 : (a0_2 != 0) = true := bne_iff_ne.mpr c7
    (first | rw [c7b0] | (simp only [i64_w, i32_w]; rw [c7b0]) | skip)
    have H' := Aside0.mk H
    clear H
    obtain ⟨hcz11_0, hcz11_1, hcz11_2, hcz11_3, hfz11_0, hfz11_1, hfz11_2, hfz11_3⟩ := zq4 BK700
    go_wp2_with (first | (go_at_call 48; (with_reducible refine (imageeditorref02_Valid.calls a0_0 a0_1 a0_2 a0_3 true _ A5.out).mono ?_); rintro e w12 ⟨rfl, hb⟩; replace BK700 := zk BK700 hb; replace HB := zb HB hb; (try clear hb); (try clear hb2); (try clear hk); (try clear hi); obtain ⟨hcz13_0, hcz13_1, hcz13_2, hcz13_3, hfz13_0, hfz13_1, hfz13_2, hfz13_3⟩ := zq4 BK700))
    repeat (go_quiet (first | (go_at_call 48; (with_reducible refine (imageeditorref02_Valid.calls a0_0 a0_1 a0_2 a0_3 true _ A5.out).mono ?_); rintro e w12 ⟨rfl, hb⟩; replace BK700 := zk BK700 hb; replace HB := zb HB hb; (try clear hb); (try clear hb2); (try clear hk); (try clear hi); obtain ⟨hcz13_0, hcz13_1, hcz13_2, hcz13_3, hfz13_0, hfz13_1, hfz13_2, hfz13_3⟩ := zq4 BK700)); try go_wp2_with (first | (go_at_call 48; (with_reducible refine (imageeditorref02_Valid.calls a0_0 a0_1 a0_2 a0_3 true _ A5.out).mono ?_); rintro e w12 ⟨rfl, hb⟩; replace BK700 := zk BK700 hb; replace HB := zb HB hb; (try clear hb); (try clear hb2); (try clear hk); (try clear hi); obtain ⟨hcz13_0, hcz13_1, hcz13_2, hcz13_3, hfz13_0, hfz13_1, hfz13_2, hfz13_3⟩ := zq4 BK700)))
    go_meet
    case rel => exact ⟨_, ((a0_3 == 0)), (by first | rfl | (simp; done) | (simp [*]; done)), H', ⟨by first | omega | exact Nat.le_refl _⟩, ⟨by exact zk0 BK700⟩, ⟨by exact zb0 HB⟩⟩
  ·replace c6 := Bool.eq_false_iff.mpr c6
   subst c6
   have H1 : (imageeditorref02_span.j0 k a1 true a0_0 a0_1 a0_2 a0_3) = some (r1, r2) := by rw [if_neg (show ¬ (false = true) by decide)] at H; exact H
   clear H
   have H := H1
   clear H1
   have H' := Aside0.mk H
   clear H
   obtain ⟨hcz14_0, hcz14_1, hcz14_2, hcz14_3, hfz14_0, hfz14_1, hfz14_2, hfz14_3⟩ := zq4 BK700
   go_wp2_with (first | (go_at_call 48; (with_reducible refine (imageeditorref02_Valid.calls a0_0 a0_1 a0_2 a0_3 false _ A5.out).mono ?_); rintro e w15 ⟨rfl, hb⟩; replace BK700 := zk BK700 hb; replace HB := zb HB hb; (try clear hb); (try clear hb2); (try clear hk); (try clear hi)))
   repeat (go_quiet (first | (go_at_call 48; (with_reducible refine (imageeditorref02_Valid.calls a0_0 a0_1 a0_2 a0_3 false _ A5.out).mono ?_); rintro e w15 ⟨rfl, hb⟩; replace BK700 := zk BK700 hb; replace HB := zb HB hb; (try clear hb); (try clear hb2); (try clear hk); (try clear hi))); try go_wp2_with (first | (go_at_call 48; (with_reducible refine (imageeditorref02_Valid.calls a0_0 a0_1 a0_2 a0_3 false _ A5.out).mono ?_); rintro e w15 ⟨rfl, hb⟩; replace BK700 := zk BK700 hb; replace HB := zb HB hb; (try clear hb); (try clear hb2); (try clear hk); (try clear hi))))
   go_meet
   case rel => exact ⟨_, (true), (by first | rfl | (simp; done) | (simp [*]; done)), H', ⟨by first | omega | exact Nat.le_refl _⟩, ⟨by exact zk0 BK700⟩, ⟨by exact zb0 HB⟩⟩
 case rest =>
  clear HC3
  try clear p2
  try clear q4
  try clear c6
  try clear c7
  try clear c7b0
  try clear c7b1
  try clear hcz10_0
  try clear hcz10_1
  try clear hcz10_2
  try clear hcz10_3
  try clear hcz11_0
  try clear hcz11_1
  try clear hcz11_2
  try clear hcz11_3
  try clear hcz13_0
  try clear hcz13_1
  try clear hcz13_2
  try clear hcz13_3
  try clear hcz14_0
  try clear hcz14_1
  try clear hcz14_2
  try clear hcz14_3
  try clear hcz8_0
  try clear hcz8_1
  try clear hcz8_2
  try clear hcz8_3
  try clear hfz10_0
  try clear hfz10_1
  try clear hfz10_2
  try clear hfz10_3
  try clear hfz11_0
  try clear hfz11_1
  try clear hfz11_2
  try clear hfz11_3
  try clear hfz13_0
  try clear hfz13_1
  try clear hfz13_2
  try clear hfz13_3
  try clear hfz14_0
  try clear hfz14_1
  try clear hfz14_2
  try clear hfz14_3
  try clear hfz8_0
  try clear hfz8_1
  try clear hfz8_2
  try clear hfz8_3
  obtain ⟨kq, x18_2, rfl, HA, HJ2, BK700, HB⟩ := hcut
  cases kq with
  | zero => exact absurd HA.out (by simp [imageeditorref02_span.j0])
  | succ kj2 =>
   have H := HA.out
   clear HA
   simp only [imageeditorref02_span.j0] at H
   by_cases c16 : x18_2 = true
   ·subst c16
    have H1 : (some (0, (-1))) = some (r1, r2) := by rw [if_pos rfl] at H; exact H
    clear H
    have H := H1
    clear H1
    simp only [Option.some.injEq, Prod.mk.injEq] at H
    obtain ⟨rfl, rfl⟩ := H
    go_wp2
    repeat (go_quiet (fail); try go_wp2)
    go_ret2
    exact ⟨by first | rfl | (simp [errW_none, errW_some] <;> rfl) | (simp [*, errW_none, errW_some] <;> rfl), by exact zb0 HB⟩
   ·replace c16 := Bool.eq_false_iff.mpr c16
    subst c16
    have H1 : (if a1 = 0 then (some (a0_0, wrap64 ((wrap64 (a0_0 + a0_2)) - 1))) else (some (a0_1, wrap64 ((wrap64 (a0_1 + a0_3)) - 1)))) = some (r1, r2) := by rw [if_neg (show ¬ (false = true) by decide)] at H; exact H
    clear H
    have H := H1
    clear H1
    by_cases c17 : a1 = 0
    ·rw [if_pos c17] at H
     have c17b0 : (a1 == 0) = true := beq_iff_eq.mpr c17
     have c17b1 : (a1 != 0) = false := bne_eq_false_iff_eq.mpr c17
     clear c17
     simp only [Option.some.injEq, Prod.mk.injEq] at H
     obtain ⟨rfl, rfl⟩ := H
     obtain ⟨hcz18_0, hcz18_1, hcz18_2, hcz18_3, hfz18_0, hfz18_1, hfz18_2, hfz18_3⟩ := zq4 BK700
     go_wp2
     repeat (go_quiet (fail); try go_wp2)
     go_ret2
     exact ⟨by first | rfl | (simp [errW_none, errW_some] <;> rfl) | (simp [*, errW_none, errW_some] <;> rfl), by exact zb0 HB⟩
    ·rw [if_neg c17] at H
     have c17b0 : (a1 == 0) = false := beq_eq_false_iff_ne.mpr c17
     have c17b1 : (a1 != 0) = true := bne_iff_ne.mpr c17
     simp only [Option.some.injEq, Prod.mk.injEq] at H
     obtain ⟨rfl, rfl⟩ := H
     obtain ⟨hcz19_0, hcz19_1, hcz19_2, hcz19_3, hfz19_0, hfz19_1, hfz19_2, hfz19_3⟩ := zq4 BK700
     go_wp2
     repeat (go_quiet (fail); try go_wp2)
     go_ret2
     exact ⟨by first | rfl | (simp [errW_none, errW_some] <;> rfl) | (simp [*, errW_none, errW_some] <;> rfl), by exact zb0 HB⟩

/-! ### imageeditorref02_of: function 62 -/
def imageeditorref02_of.f (a0 : Int) (a1 : Int) (a2 : Int) (a3 : Int) : Option (Int × Int × Int × Int) := if a1 < a0 then (some (0, 0, 0, 0)) else (if a3 < a2 then (some (0, 0, 0, 0)) else (some (a0, a2, wrap64 ((wrap64 (a1 - a0)) + 1), wrap64 ((wrap64 (a3 - a2)) + 1))))
set_option maxHeartbeats 8000000 in
set_option maxRecDepth 100000 in
theorem imageeditorref02_of.calls (a0 : Int) (a1 : Int) (a2 : Int) (a3 : Int) (r1 : Int) (r2 : Int) (r3 : Int) (r4 : Int) (w : World) (h : imageeditorref02_of.f a0 a1 a2 a3 = some (r1, r2, r3, r4)) :
  Calls Try.prog 62 #[.int .i64 a0, .int .i64 a1, .int .i64 a2, .int .i64 a3] w fun e w' => e = .returned (.agg #[.int .i64 r1, .int .i64 r2, .int .i64 r3, .int .i64 r4]) ∧ Below w.heap.size w w' := by
 have hu37 := Try.underlying37
 have HB := Aside0.mk (Below.refl w.heap.size w)
 have H : (if a1 < a0 then (some (0, 0, 0, 0)) else (if a3 < a2 then (some (0, 0, 0, 0)) else (some (a0, a2, wrap64 ((wrap64 (a1 - a0)) + 1), wrap64 ((wrap64 (a3 - a2)) + 1))))) = some (r1, r2, r3, r4) := h
 clear h
 by_cases c5 : a1 < a0
 ·rw [if_pos c5] at H
  have c5b0 : decide (a1 < a0) = true := decide_eq_true c5
  clear c5
  simp only [Option.some.injEq, Prod.mk.injEq] at H
  obtain ⟨rfl, rfl, rfl, rfl⟩ := H
  go_enter Try.func62, Try.ntmps62
  go_wp2_with (first | ((with_reducible refine gate_dst (N := 8) rfl ?_); refine box_event ?hg (N := 8) ?hd (cs := #[.int .i64 0, .int .i64 0, .int .i64 0, .int .i64 0]) (t := 37) ?hr ?_; (case hd => rfl); (case hg => rfl); (case hr => first | (go_simp; done) | (go_simp; rfl)); intro gb702 hg w6 hbox hb; have GW702 := zg HB hg; have GE702 := zg HB hg; have n0_ := Aside0.mk (hbox); replace HB := zb HB hb; have BK702 := n0_; clear n0_; clear hb hbox hg; obtain ⟨hcz7_0, hcz7_1, hcz7_2, hcz7_3, hfz7_0, hfz7_1, hfz7_2, hfz7_3⟩ := zq4 BK702))
  refine bodyPost_ret (results_cell_row rfl _ _ gb702 37 #[.int .i64 0, .int .i64 0, .int .i64 0, .int .i64 0] (0, 0) _ rfl (by exact zp BK702 rfl) Try.underlying37 rfl (by kernel_rfl)) rfl ?_
  exact ⟨by first | rfl | (simp [errW_none, errW_some] <;> rfl) | (simp [*, errW_none, errW_some] <;> rfl), by exact zbo HB GE702⟩
 ·rw [if_neg c5] at H
  have c5b0 : decide (a1 < a0) = false := decide_eq_false c5
  clear c5
  by_cases c8 : a3 < a2
  ·rw [if_pos c8] at H
   have c8b0 : decide (a3 < a2) = true := decide_eq_true c8
   clear c8
   simp only [Option.some.injEq, Prod.mk.injEq] at H
   obtain ⟨rfl, rfl, rfl, rfl⟩ := H
   go_enter Try.func62, Try.ntmps62
   go_wp2_with (first | ((with_reducible refine gate_dst (N := 8) rfl ?_); refine box_event ?hg (N := 8) ?hd (cs := #[.int .i64 0, .int .i64 0, .int .i64 0, .int .i64 0]) (t := 37) ?hr ?_; (case hd => rfl); (case hg => rfl); (case hr => first | (go_simp; done) | (go_simp; rfl)); intro gb702 hg w9 hbox hb; have GW702 := zg HB hg; have GE702 := zg HB hg; have n0_ := Aside0.mk (hbox); replace HB := zb HB hb; have BK702 := n0_; clear n0_; clear hb hbox hg; obtain ⟨hcz10_0, hcz10_1, hcz10_2, hcz10_3, hfz10_0, hfz10_1, hfz10_2, hfz10_3⟩ := zq4 BK702))
   refine bodyPost_ret (results_cell_row rfl _ _ gb702 37 #[.int .i64 0, .int .i64 0, .int .i64 0, .int .i64 0] (0, 0) _ rfl (by exact zp BK702 rfl) Try.underlying37 rfl (by kernel_rfl)) rfl ?_
   exact ⟨by first | rfl | (simp [errW_none, errW_some] <;> rfl) | (simp [*, errW_none, errW_some] <;> rfl), by exact zbo HB GE702⟩
  ·rw [if_neg c8] at H
   have c8b0 : decide (a3 < a2) = false := decide_eq_false c8
   clear c8
   simp only [Option.some.injEq, Prod.mk.injEq] at H
   obtain ⟨rfl, rfl, rfl, rfl⟩ := H
   go_enter Try.func62, Try.ntmps62
   go_wp2_with (first | ((with_reducible refine gate_dst (N := 8) rfl ?_); refine box_event ?hg (N := 8) ?hd (cs := #[.int .i64 0, .int .i64 0, .int .i64 0, .int .i64 0]) (t := 37) ?hr ?_; (case hd => rfl); (case hg => rfl); (case hr => first | (go_simp; done) | (go_simp; rfl)); intro gb702 hg w11 hbox hb; have GW702 := zg HB hg; have GE702 := zg HB hg; have n0_ := Aside0.mk (hbox); replace HB := zb HB hb; have BK702 := n0_; clear n0_; clear hb hbox hg; obtain ⟨hcz12_0, hcz12_1, hcz12_2, hcz12_3, hfz12_0, hfz12_1, hfz12_2, hfz12_3⟩ := zq4 BK702))
   refine bodyPost_ret (results_cell_row rfl _ _ gb702 37 #[.int .i64 a0, .int .i64 a2, .int .i64 (wrap64 ((wrap64 (a1 - a0)) + 1)), .int .i64 (wrap64 ((wrap64 (a3 - a2)) + 1))] (0, 0) _ rfl (by exact zp BK702 rfl) Try.underlying37 rfl (by kernel_rfl)) rfl ?_
   exact ⟨by first | rfl | (simp [errW_none, errW_some] <;> rfl) | (simp [*, errW_none, errW_some] <;> rfl), by exact zbo HB GE702⟩

end Go.Proofs.Ytjepbimgddgijaa.G
