/- Contracts of functions of the program, each as it is called: what it computes (.f), that it computes no less with more rounds (.mono), and that a call returns just that (.calls). No conditions but those that each contract names. Written by a program of this session (wip/gx.py over the kit's print). -/
import Derived.Test.YtjepbimgddgijaaG0
import Derived.Test.YtjepbimgddgijaaXPlus
import Derived.Test.YtjepbimgddgijaaG1
import Derived.Test.YtjepbimgddgijaaG5
import Derived.Test.YtjepbimgddgijaaG9
import Derived.Test.YtjepbimgddgijaaG10
import Derived.Test.YtjepbimgddgijaaG21
namespace Go.Proofs.Ytjepbimgddgijaa.G
open Go.RowKit Go.Proofs.YtjepbimgddgijaaW.PrintWords Go.Proofs.YtjepbimgddgijaaW.PrintLast Go.Proofs.YtjepbimgddgijaaW.PrintMore
attribute [local go_sem] max2_int min2_int max_two min_two max_three min_three max_four min_four   -- for this text's walks alone
set_option linter.unusedVariables false
set_option linter.unusedSimpArgs false


/-! ### imageeditorlaw11_RasterTiles: function 12 -/
mutual
def imageeditorlaw11_RasterTiles.j0 : Nat → Bool → Int → Int → List (S26) → Option (Bool)
 | 0, _, _, _, _ => none
 | k + 1, x26, x493000, x493001, x493002 => if x26 = true then ((imageeditorlaw11_awake.f k).bind fun t496 => (some t496)) else (imageeditorlaw11_RasterTiles.l0 k ([] : List (S24)) 0 x493000 x493001 x493002)
def imageeditorlaw11_RasterTiles.l0 : Nat → List (S24) → Int → Int → Int → List (S26) → Option (Bool)
 | 0, _, _, _, _, _ => none
 | k + 1, x3, x4, x493000, x493001, x493002 => if x4 < x493001 then (imageeditorlaw11_RasterTiles.l1 k x3 x4 0 x493000 x493001 x493002) else ((raster_Join.f k x493000 x493001 x3).bind fun bt497 => (if bt497.2.2.2 = 0 then ((imageeditorlaw11_same.f k bt497.1 bt497.2.1 bt497.2.2.1 x493000 x493001 x493002).bind fun t504 => (some t504)) else (some false)))
def imageeditorlaw11_RasterTiles.l1 : Nat → List (S24) → Int → Int → Int → Int → List (S26) → Option (Bool)
 | 0, _, _, _, _, _, _ => none
 | k + 1, x3, x4, x5, x493000, x493001, x493002 => if x5 < x493000 then ((raster_Crop.f k x493000 x493001 x493002 x5 x4 (mn 16 (wrap64 (x493000 - x5))) (mn 16 (wrap64 (x493001 - x4)))).bind fun bt505 => (if bt505.2.2.2 = 0 then (if x3.length < 3518437208883 then (imageeditorlaw11_RasterTiles.l1 k (x3 ++ [(⟨bt505.1, bt505.2.1, bt505.2.2.1⟩ : S24)]) x4 (wrap64 (x5 + 16)) x493000 x493001 x493002) else (none)) else (some false))) else (imageeditorlaw11_RasterTiles.l0 k x3 (wrap64 (x4 + 16)) x493000 x493001 x493002)
end
def imageeditorlaw11_RasterTiles.f (k : Nat) (a0_0 : Int) (a0_1 : Int) (l0_2 : List (S26)) : Option (Bool) := (imageeditorlaw11_awake.f k).bind fun t493 => (if t493 = true then ((raster_Check.f k a0_0 a0_1 l0_2).bind fun t494 => (if t494 = 0 then ((imageeditorlaw11_full.f a0_0 a0_1 l0_2).bind fun t495 => (if t495 = true then (imageeditorlaw11_RasterTiles.j0 k (a0_0 == 0) a0_0 a0_1 l0_2) else (imageeditorlaw11_RasterTiles.j0 k true a0_0 a0_1 l0_2))) else (imageeditorlaw11_RasterTiles.j0 k true a0_0 a0_1 l0_2))) else (imageeditorlaw11_RasterTiles.j0 k true a0_0 a0_1 l0_2))
theorem imageeditorlaw11_RasterTiles.mono_l : ∀ k, (∀ y0 y1 y2 y3, LeO (imageeditorlaw11_RasterTiles.j0 k y0 y1 y2 y3) (imageeditorlaw11_RasterTiles.j0 (k + 1) y0 y1 y2 y3)) ∧ (∀ y0 y1 y2 y3 y4, LeO (imageeditorlaw11_RasterTiles.l0 k y0 y1 y2 y3 y4) (imageeditorlaw11_RasterTiles.l0 (k + 1) y0 y1 y2 y3 y4)) ∧ (∀ y0 y1 y2 y3 y4 y5, LeO (imageeditorlaw11_RasterTiles.l1 k y0 y1 y2 y3 y4 y5) (imageeditorlaw11_RasterTiles.l1 (k + 1) y0 y1 y2 y3 y4 y5))
 | 0 => ⟨fun _ _ _ _ r h => by simp [imageeditorlaw11_RasterTiles.j0] at h, fun _ _ _ _ _ r h => by simp [imageeditorlaw11_RasterTiles.l0] at h, fun _ _ _ _ _ _ r h => by simp [imageeditorlaw11_RasterTiles.l1] at h⟩
 | k + 1 => by
  obtain ⟨ih0, ih1, ih2⟩ := imageeditorlaw11_RasterTiles.mono_l k
  refine ⟨?_, ?_, ?_⟩
  ·intro y0 y1 y2 y3
   unfold imageeditorlaw11_RasterTiles.j0
   repeat' first
   | (with_reducible exact ih0 _ _ _ _)
   | (with_reducible exact ih1 _ _ _ _ _)
   | (with_reducible exact ih2 _ _ _ _ _ _)
   | (with_reducible exact imageeditorlaw11_awake.mono _)
   | (with_reducible exact imageeditorlaw11_same.mono _ _ _ _ _ _ _)
   | (with_reducible exact raster_Check.mono _ _ _ _)
   | (with_reducible exact raster_Crop.mono _ _ _ _ _ _ _ _)
   | (with_reducible exact raster_Join.mono _ _ _ _)
   | (with_reducible exact LeO.refl _)
   | (with_reducible exact LeO.none _)
   | (with_reducible refine LeO.ite ?_ ?_)
   | (with_reducible refine LeO.bind ?_ (fun _ => ?_))
   | exact ih0 _ _ _ _
   | exact ih1 _ _ _ _ _
   | exact ih2 _ _ _ _ _ _
   | exact imageeditorlaw11_awake.mono _
   | exact imageeditorlaw11_same.mono _ _ _ _ _ _ _
   | exact raster_Check.mono _ _ _ _
   | exact raster_Crop.mono _ _ _ _ _ _ _ _
   | exact raster_Join.mono _ _ _ _
   | exact LeO.none _
   | refine LeO.ite ?_ ?_
   | refine LeO.bind ?_ (fun _ => ?_)
  ·intro y0 y1 y2 y3 y4
   unfold imageeditorlaw11_RasterTiles.l0
   repeat' first
   | (with_reducible exact ih0 _ _ _ _)
   | (with_reducible exact ih1 _ _ _ _ _)
   | (with_reducible exact ih2 _ _ _ _ _ _)
   | (with_reducible exact imageeditorlaw11_awake.mono _)
   | (with_reducible exact imageeditorlaw11_same.mono _ _ _ _ _ _ _)
   | (with_reducible exact raster_Check.mono _ _ _ _)
   | (with_reducible exact raster_Crop.mono _ _ _ _ _ _ _ _)
   | (with_reducible exact raster_Join.mono _ _ _ _)
   | (with_reducible exact LeO.refl _)
   | (with_reducible exact LeO.none _)
   | (with_reducible refine LeO.ite ?_ ?_)
   | (with_reducible refine LeO.bind ?_ (fun _ => ?_))
   | exact ih0 _ _ _ _
   | exact ih1 _ _ _ _ _
   | exact ih2 _ _ _ _ _ _
   | exact imageeditorlaw11_awake.mono _
   | exact imageeditorlaw11_same.mono _ _ _ _ _ _ _
   | exact raster_Check.mono _ _ _ _
   | exact raster_Crop.mono _ _ _ _ _ _ _ _
   | exact raster_Join.mono _ _ _ _
   | exact LeO.none _
   | refine LeO.ite ?_ ?_
   | refine LeO.bind ?_ (fun _ => ?_)
  ·intro y0 y1 y2 y3 y4 y5
   unfold imageeditorlaw11_RasterTiles.l1
   repeat' first
   | (with_reducible exact ih0 _ _ _ _)
   | (with_reducible exact ih1 _ _ _ _ _)
   | (with_reducible exact ih2 _ _ _ _ _ _)
   | (with_reducible exact imageeditorlaw11_awake.mono _)
   | (with_reducible exact imageeditorlaw11_same.mono _ _ _ _ _ _ _)
   | (with_reducible exact raster_Check.mono _ _ _ _)
   | (with_reducible exact raster_Crop.mono _ _ _ _ _ _ _ _)
   | (with_reducible exact raster_Join.mono _ _ _ _)
   | (with_reducible exact LeO.refl _)
   | (with_reducible exact LeO.none _)
   | (with_reducible refine LeO.ite ?_ ?_)
   | (with_reducible refine LeO.bind ?_ (fun _ => ?_))
   | exact ih0 _ _ _ _
   | exact ih1 _ _ _ _ _
   | exact ih2 _ _ _ _ _ _
   | exact imageeditorlaw11_awake.mono _
   | exact imageeditorlaw11_same.mono _ _ _ _ _ _ _
   | exact raster_Check.mono _ _ _ _
   | exact raster_Crop.mono _ _ _ _ _ _ _ _
   | exact raster_Join.mono _ _ _ _
   | exact LeO.none _
   | refine LeO.ite ?_ ?_
   | refine LeO.bind ?_ (fun _ => ?_)
theorem imageeditorlaw11_RasterTiles.mono : ∀ a0 a1 a2 k, LeO (imageeditorlaw11_RasterTiles.f k a0 a1 a2) (imageeditorlaw11_RasterTiles.f (k + 1) a0 a1 a2) := by
 intro a0 a1 a2 k
 obtain ⟨ih0, ih1, ih2⟩ := imageeditorlaw11_RasterTiles.mono_l k
 unfold imageeditorlaw11_RasterTiles.f
 repeat' first
   | (with_reducible exact ih0 _ _ _ _)
   | (with_reducible exact ih1 _ _ _ _ _)
   | (with_reducible exact ih2 _ _ _ _ _ _)
   | (with_reducible exact imageeditorlaw11_awake.mono _)
   | (with_reducible exact imageeditorlaw11_same.mono _ _ _ _ _ _ _)
   | (with_reducible exact raster_Check.mono _ _ _ _)
   | (with_reducible exact raster_Crop.mono _ _ _ _ _ _ _ _)
   | (with_reducible exact raster_Join.mono _ _ _ _)
   | (with_reducible exact LeO.refl _)
   | (with_reducible exact LeO.none _)
   | (with_reducible refine LeO.ite ?_ ?_)
   | (with_reducible refine LeO.bind ?_ (fun _ => ?_))
   | exact ih0 _ _ _ _
   | exact ih1 _ _ _ _ _
   | exact ih2 _ _ _ _ _ _
   | exact imageeditorlaw11_awake.mono _
   | exact imageeditorlaw11_same.mono _ _ _ _ _ _ _
   | exact raster_Check.mono _ _ _ _
   | exact raster_Crop.mono _ _ _ _ _ _ _ _
   | exact raster_Join.mono _ _ _ _
   | exact LeO.none _
   | refine LeO.ite ?_ ?_
   | refine LeO.bind ?_ (fun _ => ?_)
set_option maxHeartbeats 8000000 in
set_option maxRecDepth 100000 in
theorem imageeditorlaw11_RasterTiles.callsT (k : Nat) (a0_0 : Int) (a0_1 : Int) (A0_2 : Option Addr) (c0_2 : Nat) (l0_2 : List (S26)) (r : Bool) (w : World) (hr0_2 : Kd.C k26 w A0_2 l0_2.length l0_2) (hc0_2 : l0_2.length ≤ c0_2) (hT : r = true) (h : imageeditorlaw11_RasterTiles.f k a0_0 a0_1 l0_2 = some r) :
  Calls Try.prog 12 #[.agg #[.int .i64 a0_0, .int .i64 a0_1, .slice A0_2 l0_2.length c0_2]] w fun e w' => e = .returned (.bool r) ∧ Below w.heap.size w w' := by
 have hu24 := Try.underlying24
 have hu37 := Try.underlying37
 have HT := Aside0.mk hT
 clear hT
 have HR0_2 := Aside0.mk hr0_2
 have HC0_2 := Aside0.mk hc0_2
 clear hr0_2 hc0_2
 have HB := Aside0.mk (Below.refl w.heap.size w)
 have H : ((imageeditorlaw11_awake.f k).bind fun t493 => (if t493 = true then ((raster_Check.f k a0_0 a0_1 l0_2).bind fun t494 => (if t494 = 0 then ((imageeditorlaw11_full.f a0_0 a0_1 l0_2).bind fun t495 => (if t495 = true then (imageeditorlaw11_RasterTiles.j0 k (a0_0 == 0) a0_0 a0_1 l0_2) else (imageeditorlaw11_RasterTiles.j0 k true a0_0 a0_1 l0_2))) else (imageeditorlaw11_RasterTiles.j0 k true a0_0 a0_1 l0_2))) else (imageeditorlaw11_RasterTiles.j0 k true a0_0 a0_1 l0_2))) = some r := h
 clear h
 have HC2 := Aside0.mk H
 clear H
 go_enter Try.func12, Try.ntmps12
 go_upto_region 1 with (first | ((with_reducible refine gate_dst (N := 1) rfl ?_); refine box_event ?hg (N := 1) ?hd (cs := #[.int .i64 a0_0, .int .i64 a0_1, .slice A0_2 l0_2.length c0_2]) (t := 24) ?hr ?_; (case hd => rfl); (case hg => rfl); (case hr => first | (go_simp; done) | (go_simp; rfl)); intro gb492 hg w3 hbox hb; have GW492 := zg HB hg; have GE492 := zg HB hg; have n0_ := Aside0.mk (hbox); replace HB := zb HB hb; have BK492 := n0_; clear n0_; clear hb hbox hg))
 (try simp only [Act.put, sA, sB, sC])
 go_cut [26] (fun v26 wc => ∃ (kq : Nat) (x26_1 : Bool), v26 = .bool x26_1 ∧ Aside0 (imageeditorlaw11_RasterTiles.j0 kq x26_1 a0_0 a0_1 l0_2 = some r) ∧ Aside0 (kq ≤ k) ∧ Aside0 (wc.heap[gb492]? = some (.cells #[.int .i64 a0_0, .int .i64 a0_1, (.slice A0_2 l0_2.length c0_2)] 24 (0, 0))) ∧ Aside0 (Below w.heap.size w wc))
 case first =>
  have H := HC2.out
  clear HC2
  replace H := Option.bind_eq_some_iff.mp H
  obtain ⟨t493, A40, H⟩ := H
  replace H : (if t493 = true then ((raster_Check.f k a0_0 a0_1 l0_2).bind fun t494 => (if t494 = 0 then ((imageeditorlaw11_full.f a0_0 a0_1 l0_2).bind fun t495 => (if t495 = true then (imageeditorlaw11_RasterTiles.j0 k (a0_0 == 0) a0_0 a0_1 l0_2) else (imageeditorlaw11_RasterTiles.j0 k true a0_0 a0_1 l0_2))) else (imageeditorlaw11_RasterTiles.j0 k true a0_0 a0_1 l0_2))) else (imageeditorlaw11_RasterTiles.j0 k true a0_0 a0_1 l0_2)) = some r := H
  have A4 := Aside0.mk A40
  clear A40
  by_cases c5 : t493 = true
  ·subst c5
   have H1 : ((raster_Check.f k a0_0 a0_1 l0_2).bind fun t494 => (if t494 = 0 then ((imageeditorlaw11_full.f a0_0 a0_1 l0_2).bind fun t495 => (if t495 = true then (imageeditorlaw11_RasterTiles.j0 k (a0_0 == 0) a0_0 a0_1 l0_2) else (imageeditorlaw11_RasterTiles.j0 k true a0_0 a0_1 l0_2))) else (imageeditorlaw11_RasterTiles.j0 k true a0_0 a0_1 l0_2))) = some r := by rw [if_pos rfl] at H; exact H
   clear H
   have H := H1
   clear H1
   replace H := Option.bind_eq_some_iff.mp H
   obtain ⟨t494, A60, H⟩ := H
   replace H : (if t494 = 0 then ((imageeditorlaw11_full.f a0_0 a0_1 l0_2).bind fun t495 => (if t495 = true then (imageeditorlaw11_RasterTiles.j0 k (a0_0 == 0) a0_0 a0_1 l0_2) else (imageeditorlaw11_RasterTiles.j0 k true a0_0 a0_1 l0_2))) else (imageeditorlaw11_RasterTiles.j0 k true a0_0 a0_1 l0_2)) = some r := H
   have A6 := Aside0.mk A60
   clear A60
   by_cases c7 : t494 = 0
   ·rw [if_pos c7] at H
    have c7b0 : (t494 == 0) = true := beq_iff_eq.mpr c7
    have c7b1 : (t494 != 0) = false := bne_eq_false_iff_eq.mpr c7
    clear c7
    (first | rw [c7b0] | (simp only [i64_w, i32_w]; rw [c7b0]) | skip)
    replace H := Option.bind_eq_some_iff.mp H
    obtain ⟨t495, A80, H⟩ := H
    replace H : (if t495 = true then (imageeditorlaw11_RasterTiles.j0 k (a0_0 == 0) a0_0 a0_1 l0_2) else (imageeditorlaw11_RasterTiles.j0 k true a0_0 a0_1 l0_2)) = some r := H
    have A8 := Aside0.mk A80
    clear A80
    by_cases c9 : t495 = true
    ·subst c9
     have H1 : (imageeditorlaw11_RasterTiles.j0 k (a0_0 == 0) a0_0 a0_1 l0_2) = some r := by rw [if_pos rfl] at H; exact H
     clear H
     have H := H1
     clear H1
     as_aux_lemma =>
      have H' := Aside0.mk H
      clear H
      go_wp2_with (first | ((with_reducible refine gate_callee (f := 17) rfl ?_); refine goesL_ (some 10) rfl rfl Try.func17 (by kernel_rfl) rfl #[] rfl (by (try simp only [List.map_toArray, List.map_cons, List.map_nil]); first | done | rfl | (simp only [List.length_drop, List.length_take]; rfl)) ?_; (with_reducible refine (imageeditorlaw11_awake.calls k  true _ A4.out).mono ?_); rintro e w10 ⟨rfl, hb⟩; refine ⟨_, rfl, ?_⟩; replace BK492 := zk BK492 hb; replace HB := zb HB hb; (try clear hb); (try clear hb2); (try clear hk); (try clear hi); obtain ⟨hcz11_0, hcz11_1, hcz11_2, hfz11_0, hfz11_1, hfz11_2⟩ := zq3 BK492) | (go_at_call 18; (with_reducible refine (raster_Check.calls k a0_0 a0_1 _ _ l0_2 t494 _ ?side1 ?side2 A6.out).mono ?_); (case side1 => repeat (first | exact (Kd.C_below HR0_2.out HB.out) | (with_reducible refine Kd.C_alloc ?_ _) | (with_reducible refine Kd.C_drewN ?_ _) | (with_reducible refine Kd.C_drew ?_))); (case side2 => exact HC0_2.out); rintro e w12 ⟨rfl, hb⟩; replace BK492 := zk BK492 hb; replace HB := zb HB hb; (try clear hb); (try clear hb2); (try clear hk); (try clear hi); obtain ⟨hcz13_0, hcz13_1, hcz13_2, hfz13_0, hfz13_1, hfz13_2⟩ := zq3 BK492) | (go_at_call 37; (with_reducible refine (imageeditorlaw11_full.calls a0_0 a0_1 _ _ l0_2 true _ ?side1 ?side2 A8.out).mono ?_); (case side1 => repeat (first | exact (Kd.C_below HR0_2.out HB.out) | (with_reducible refine Kd.C_alloc ?_ _) | (with_reducible refine Kd.C_drewN ?_ _) | (with_reducible refine Kd.C_drew ?_))); (case side2 => exact HC0_2.out); rintro e w14 ⟨rfl, hb⟩; replace BK492 := zk BK492 hb; replace HB := zb HB hb; (try clear hb); (try clear hb2); (try clear hk); (try clear hi); obtain ⟨hcz15_0, hcz15_1, hcz15_2, hfz15_0, hfz15_1, hfz15_2⟩ := zq3 BK492))
      go_meet
      case rel => exact ⟨_, ((a0_0 == 0)), (by first | rfl | (simp; done) | (simp [*]; done)), H', ⟨by first | omega | exact Nat.le_refl _⟩, ⟨by exact zk0 BK492⟩, ⟨by exact zb0 HB⟩⟩
    ·replace c9 := Bool.eq_false_iff.mpr c9
     subst c9
     have H1 : (imageeditorlaw11_RasterTiles.j0 k true a0_0 a0_1 l0_2) = some r := by rw [if_neg (show ¬ (false = true) by decide)] at H; exact H
     clear H
     have H := H1
     clear H1
     as_aux_lemma =>
      have H' := Aside0.mk H
      clear H
      go_wp2_with (first | ((with_reducible refine gate_callee (f := 17) rfl ?_); refine goesL_ (some 10) rfl rfl Try.func17 (by kernel_rfl) rfl #[] rfl (by (try simp only [List.map_toArray, List.map_cons, List.map_nil]); first | done | rfl | (simp only [List.length_drop, List.length_take]; rfl)) ?_; (with_reducible refine (imageeditorlaw11_awake.calls k  true _ A4.out).mono ?_); rintro e w16 ⟨rfl, hb⟩; refine ⟨_, rfl, ?_⟩; replace BK492 := zk BK492 hb; replace HB := zb HB hb; (try clear hb); (try clear hb2); (try clear hk); (try clear hi); obtain ⟨hcz17_0, hcz17_1, hcz17_2, hfz17_0, hfz17_1, hfz17_2⟩ := zq3 BK492) | (go_at_call 18; (with_reducible refine (raster_Check.calls k a0_0 a0_1 _ _ l0_2 t494 _ ?side1 ?side2 A6.out).mono ?_); (case side1 => repeat (first | exact (Kd.C_below HR0_2.out HB.out) | (with_reducible refine Kd.C_alloc ?_ _) | (with_reducible refine Kd.C_drewN ?_ _) | (with_reducible refine Kd.C_drew ?_))); (case side2 => exact HC0_2.out); rintro e w18 ⟨rfl, hb⟩; replace BK492 := zk BK492 hb; replace HB := zb HB hb; (try clear hb); (try clear hb2); (try clear hk); (try clear hi); obtain ⟨hcz19_0, hcz19_1, hcz19_2, hfz19_0, hfz19_1, hfz19_2⟩ := zq3 BK492) | (go_at_call 37; (with_reducible refine (imageeditorlaw11_full.calls a0_0 a0_1 _ _ l0_2 false _ ?side1 ?side2 A8.out).mono ?_); (case side1 => repeat (first | exact (Kd.C_below HR0_2.out HB.out) | (with_reducible refine Kd.C_alloc ?_ _) | (with_reducible refine Kd.C_drewN ?_ _) | (with_reducible refine Kd.C_drew ?_))); (case side2 => exact HC0_2.out); rintro e w20 ⟨rfl, hb⟩; replace BK492 := zk BK492 hb; replace HB := zb HB hb; (try clear hb); (try clear hb2); (try clear hk); (try clear hi)))
      go_meet
      case rel => exact ⟨_, (true), (by first | rfl | (simp; done) | (simp [*]; done)), H', ⟨by first | omega | exact Nat.le_refl _⟩, ⟨by exact zk0 BK492⟩, ⟨by exact zb0 HB⟩⟩
   ·rw [if_neg c7] at H
    have c7b0 : (t494 == 0) = false := beq_eq_false_iff_ne.mpr c7
    have c7b1 : (t494 != 0) = true := bne_iff_ne.mpr c7
    (first | rw [c7b0] | (simp only [i64_w, i32_w]; rw [c7b0]) | skip)
    as_aux_lemma =>
     have H' := Aside0.mk H
     clear H
     go_wp2_with (first | ((with_reducible refine gate_callee (f := 17) rfl ?_); refine goesL_ (some 10) rfl rfl Try.func17 (by kernel_rfl) rfl #[] rfl (by (try simp only [List.map_toArray, List.map_cons, List.map_nil]); first | done | rfl | (simp only [List.length_drop, List.length_take]; rfl)) ?_; (with_reducible refine (imageeditorlaw11_awake.calls k  true _ A4.out).mono ?_); rintro e w21 ⟨rfl, hb⟩; refine ⟨_, rfl, ?_⟩; replace BK492 := zk BK492 hb; replace HB := zb HB hb; (try clear hb); (try clear hb2); (try clear hk); (try clear hi); obtain ⟨hcz22_0, hcz22_1, hcz22_2, hfz22_0, hfz22_1, hfz22_2⟩ := zq3 BK492) | (go_at_call 18; (with_reducible refine (raster_Check.calls k a0_0 a0_1 _ _ l0_2 t494 _ ?side1 ?side2 A6.out).mono ?_); (case side1 => repeat (first | exact (Kd.C_below HR0_2.out HB.out) | (with_reducible refine Kd.C_alloc ?_ _) | (with_reducible refine Kd.C_drewN ?_ _) | (with_reducible refine Kd.C_drew ?_))); (case side2 => exact HC0_2.out); rintro e w23 ⟨rfl, hb⟩; replace BK492 := zk BK492 hb; replace HB := zb HB hb; (try clear hb); (try clear hb2); (try clear hk); (try clear hi)))
     go_meet
     case rel => exact ⟨_, (true), (by first | rfl | (simp; done) | (simp [*]; done)), H', ⟨by first | omega | exact Nat.le_refl _⟩, ⟨by exact zk0 BK492⟩, ⟨by exact zb0 HB⟩⟩
  ·replace c5 := Bool.eq_false_iff.mpr c5
   subst c5
   have H1 : (imageeditorlaw11_RasterTiles.j0 k true a0_0 a0_1 l0_2) = some r := by rw [if_neg (show ¬ (false = true) by decide)] at H; exact H
   clear H
   have H := H1
   clear H1
   as_aux_lemma =>
    have H' := Aside0.mk H
    clear H
    go_wp2_with (first | ((with_reducible refine gate_callee (f := 17) rfl ?_); refine goesL_ (some 10) rfl rfl Try.func17 (by kernel_rfl) rfl #[] rfl (by (try simp only [List.map_toArray, List.map_cons, List.map_nil]); first | done | rfl | (simp only [List.length_drop, List.length_take]; rfl)) ?_; (with_reducible refine (imageeditorlaw11_awake.calls k  false _ A4.out).mono ?_); rintro e w24 ⟨rfl, hb⟩; refine ⟨_, rfl, ?_⟩; replace BK492 := zk BK492 hb; replace HB := zb HB hb; (try clear hb); (try clear hb2); (try clear hk); (try clear hi)))
    go_meet
    case rel => exact ⟨_, (true), (by first | rfl | (simp; done) | (simp [*]; done)), H', ⟨by first | omega | exact Nat.le_refl _⟩, ⟨by exact zk0 BK492⟩, ⟨by exact zb0 HB⟩⟩
 case rest =>
  clear HC2
  try clear c1
  try clear p2
  try clear q3
  try clear c5
  try clear c7
  try clear c7b0
  try clear c7b1
  try clear c9
  try clear c12
  try clear c17
  try clear hcz11_0
  try clear hcz11_1
  try clear hcz11_2
  try clear hcz13_0
  try clear hcz13_1
  try clear hcz13_2
  try clear hcz15_0
  try clear hcz15_1
  try clear hcz15_2
  try clear hcz17_0
  try clear hcz17_1
  try clear hcz17_2
  try clear hcz19_0
  try clear hcz19_1
  try clear hcz19_2
  try clear hcz22_0
  try clear hcz22_1
  try clear hcz22_2
  try clear hfz11_0
  try clear hfz11_1
  try clear hfz11_2
  try clear hfz13_0
  try clear hfz13_1
  try clear hfz13_2
  try clear hfz15_0
  try clear hfz15_1
  try clear hfz15_2
  try clear hfz17_0
  try clear hfz17_1
  try clear hfz17_2
  try clear hfz19_0
  try clear hfz19_1
  try clear hfz19_2
  try clear hfz22_0
  try clear hfz22_1
  try clear hfz22_2
  obtain ⟨kq, x26_1, rfl, HA, HJ1, BK492, HB⟩ := hcut
  cases kq with
  | zero => exact absurd HA.out (by simp [imageeditorlaw11_RasterTiles.j0])
  | succ kj1 =>
   have H := HA.out
   clear HA
   simp only [imageeditorlaw11_RasterTiles.j0] at H
   by_cases c25 : x26_1 = true
   ·subst c25
    have H1 : ((imageeditorlaw11_awake.f kj1).bind fun t496 => (some t496)) = some r := by rw [if_pos rfl] at H; exact H
    clear H
    have H := H1
    clear H1
    replace H := Option.bind_eq_some_iff.mp H
    obtain ⟨t496, A260, H⟩ := H
    replace H : (some t496) = some r := H
    have A26 := Aside0.mk A260
    clear A260
    as_aux_lemma =>
     obtain rfl := Option.some.inj H
     (try clear BK492)
     go_wp2_with (first | ((with_reducible refine gate_callee (f := 17) rfl ?_); refine goesL_ (some 27) rfl rfl Try.func17 (by kernel_rfl) rfl #[] rfl (by (try simp only [List.map_toArray, List.map_cons, List.map_nil]); first | done | rfl | (simp only [List.length_drop, List.length_take]; rfl)) ?_; (with_reducible refine (imageeditorlaw11_awake.calls kj1  t496 _ A26.out).mono ?_); rintro e w27 ⟨rfl, hb⟩; refine ⟨_, rfl, ?_⟩; replace HB := zb HB hb; (try clear hb); (try clear hb2); (try clear hk); (try clear hi)))
     go_ret
     exact ⟨by first | rfl | (simp [errW_none, errW_some] <;> rfl) | (simp [*, errW_none, errW_some] <;> rfl), by exact zb0 HB⟩
   ·replace c25 := Bool.eq_false_iff.mpr c25
    subst c25
    have H1 : (imageeditorlaw11_RasterTiles.l0 kj1 ([] : List (S24)) 0 a0_0 a0_1 l0_2) = some r := by rw [if_neg (show ¬ (false = true) by decide)] at H; exact H
    clear H
    have H := H1
    clear H1
    have H' := Aside0.mk H
    clear H
    go_wp2
    go_loopg [3, 4] kj1 (fun kq v3 v4 w' => ∃ (x3_2 : List (S24)) (x4_2 : Int), v4 = .int .i64 x4_2 ∧ Aside0 (imageeditorlaw11_RasterTiles.l0 kq x3_2 x4_2 a0_0 a0_1 l0_2 = some r) ∧ Aside0 (kq ≤ kj1) ∧ Aside0 (Kd.S k24 24 w' w.heap.size (fun k_ => k_ ≠ gb492) v3 x3_2) ∧ Aside0 (w'.heap[gb492]? = some (.cells #[.int .i64 a0_0, .int .i64 a0_1, (.slice A0_2 l0_2.length c0_2)] 24 (0, 0))) ∧ Aside0 (Below w.heap.size w w'))
    case atStart => exact ⟨(([] : List (S24))), (0), (by first | rfl | (simp; done) | (simp [*]; done)), H', ⟨Nat.le_refl _⟩, ⟨by first | exact Kd.S_nil _ _ _ _ _ | exact Kd.N_nil _ _ _ _ _ | exact Kd.V_nil _ _ _ _ _ | exact Kd.Q_nil _ _ _ _ _ | exact Kd.R_nil _ _ _ _ _⟩, ⟨by exact zk0 BK492⟩, ⟨by exact zb0 HB⟩⟩
    case round =>
     clear H'
     try clear c1
     try clear c2
     try clear p2
     try clear q3
     try clear c5
     try clear c7
     try clear c7b0
     try clear c7b1
     try clear c9
     try clear c12
     try clear c17
     try clear c25
     try clear hcz11_0
     try clear hcz11_1
     try clear hcz11_2
     try clear hcz13_0
     try clear hcz13_1
     try clear hcz13_2
     try clear hcz15_0
     try clear hcz15_1
     try clear hcz15_2
     try clear hcz17_0
     try clear hcz17_1
     try clear hcz17_2
     try clear hcz19_0
     try clear hcz19_1
     try clear hcz19_2
     try clear hcz22_0
     try clear hcz22_1
     try clear hcz22_2
     try clear hfz11_0
     try clear hfz11_1
     try clear hfz11_2
     try clear hfz13_0
     try clear hfz13_1
     try clear hfz13_2
     try clear hfz15_0
     try clear hfz15_1
     try clear hfz15_2
     try clear hfz17_0
     try clear hfz17_1
     try clear hfz17_2
     try clear hfz19_0
     try clear hfz19_1
     try clear hfz19_2
     try clear hfz22_0
     try clear hfz22_1
     try clear hfz22_2
     try clear p2
     try clear q3
     obtain ⟨x3_2, x4_2, rfl, HA, HK2, HO_3, BK492, HB⟩ := hrel
     cases gk with
     | zero => exact absurd HA.out (by simp [imageeditorlaw11_RasterTiles.l0])
     | succ k2 =>
      have H := HA.out
      clear HA
      simp only [imageeditorlaw11_RasterTiles.l0] at H
      by_cases c28 : x4_2 < a0_1
      ·rw [if_pos c28] at H
       have c28b0 : decide (x4_2 < a0_1) = true := decide_eq_true c28
       clear c28
       have H' := Aside0.mk H
       clear H
       obtain ⟨hcz29_0, hcz29_1, hcz29_2, hfz29_0, hfz29_1, hfz29_2⟩ := zq3 BK492
       go_wp2
       go_loopg [3, 5] k2 (fun kq v3 v5 w' => ∃ (x3_3 : List (S24)) (x5_3 : Int), v5 = .int .i64 x5_3 ∧ Aside0 (imageeditorlaw11_RasterTiles.l1 kq x3_3 x4_2 x5_3 a0_0 a0_1 l0_2 = some r) ∧ Aside0 (kq ≤ k2) ∧ Aside0 (Kd.S k24 24 w' w.heap.size (fun k_ => k_ ≠ gb492) v3 x3_3) ∧ Aside0 (w'.heap[gb492]? = some (.cells #[.int .i64 a0_0, .int .i64 a0_1, (.slice A0_2 l0_2.length c0_2)] 24 (0, 0))) ∧ Aside0 (Below w.heap.size w w'))
       case atStart => exact ⟨(x3_2), (0), (by first | rfl | (simp; done) | (simp [*]; done)), H', ⟨Nat.le_refl _⟩, ⟨by (with_reducible repeat (first | apply Kd.S_alloc | apply Kd.S_drewN | apply Kd.S_drew)); exact HO_3.out⟩, ⟨by exact zk0 BK492⟩, ⟨by exact zb0 HB⟩⟩
       case round =>
        clear H'
        try clear c1
        try clear c2
        try clear p2
        try clear q3
        try clear c5
        try clear c7
        try clear c7b0
        try clear c7b1
        try clear c9
        try clear c12
        try clear c17
        try clear c25
        try clear c28
        try clear c28b0
        try clear hcz11_0
        try clear hcz11_1
        try clear hcz11_2
        try clear hcz13_0
        try clear hcz13_1
        try clear hcz13_2
        try clear hcz15_0
        try clear hcz15_1
        try clear hcz15_2
        try clear hcz17_0
        try clear hcz17_1
        try clear hcz17_2
        try clear hcz19_0
        try clear hcz19_1
        try clear hcz19_2
        try clear hcz22_0
        try clear hcz22_1
        try clear hcz22_2
        try clear hcz29_0
        try clear hcz29_1
        try clear hcz29_2
        try clear hfz11_0
        try clear hfz11_1
        try clear hfz11_2
        try clear hfz13_0
        try clear hfz13_1
        try clear hfz13_2
        try clear hfz15_0
        try clear hfz15_1
        try clear hfz15_2
        try clear hfz17_0
        try clear hfz17_1
        try clear hfz17_2
        try clear hfz19_0
        try clear hfz19_1
        try clear hfz19_2
        try clear hfz22_0
        try clear hfz22_1
        try clear hfz22_2
        try clear hfz29_0
        try clear hfz29_1
        try clear hfz29_2
        try clear p2
        try clear q3
        obtain ⟨x3_3, x5_3, rfl, HA, HK3, HO_3, BK492, HB⟩ := hrel
        cases gk with
        | zero => exact absurd HA.out (by simp [imageeditorlaw11_RasterTiles.l1])
        | succ k3 =>
         have H := HA.out
         clear HA
         simp only [imageeditorlaw11_RasterTiles.l1] at H
         by_cases c30 : x5_3 < a0_0
         ·rw [if_pos c30] at H
          have c30b0 : decide (x5_3 < a0_0) = true := decide_eq_true c30
          clear c30
          obtain ⟨ji31, hji31⟩ : ∃ j_ : Int, (mn 16 (wrap64 (a0_0 - x5_3))) = j_ := ⟨_, rfl⟩
          replace H : ((raster_Crop.f k3 a0_0 a0_1 l0_2 x5_3 x4_2 (ji31) (mn 16 (wrap64 (a0_1 - x4_2)))).bind fun bt505 => (if bt505.2.2.2 = 0 then (if x3_3.length < 3518437208883 then (imageeditorlaw11_RasterTiles.l1 k3 (x3_3 ++ [(⟨bt505.1, bt505.2.1, bt505.2.2.1⟩ : S24)]) x4_2 (wrap64 (x5_3 + 16)) a0_0 a0_1 l0_2) else (none)) else (some false))) = some r := by first | (rw [hji31] at H; exact H) | (simp only [hji31] at H ⊢; exact H)
          have hji31_ : (if (wrap64 (a0_0 - x5_3)) < 16 then (wrap64 (a0_0 - x5_3)) else 16) = ji31 := hji31
          obtain ⟨ji32, hji32⟩ : ∃ j_ : Int, (mn 16 (wrap64 (a0_1 - x4_2))) = j_ := ⟨_, rfl⟩
          replace H : ((raster_Crop.f k3 a0_0 a0_1 l0_2 x5_3 x4_2 (ji31) (ji32)).bind fun bt505 => (if bt505.2.2.2 = 0 then (if x3_3.length < 3518437208883 then (imageeditorlaw11_RasterTiles.l1 k3 (x3_3 ++ [(⟨bt505.1, bt505.2.1, bt505.2.2.1⟩ : S24)]) x4_2 (wrap64 (x5_3 + 16)) a0_0 a0_1 l0_2) else (none)) else (some false))) = some r := by first | (rw [hji32] at H; exact H) | (simp only [hji32] at H ⊢; exact H)
          have hji32_ : (if (wrap64 (a0_1 - x4_2)) < 16 then (wrap64 (a0_1 - x4_2)) else 16) = ji32 := hji32
          replace H := Option.bind_eq_some_iff.mp H
          obtain ⟨⟨t505, t506, t507, t510⟩, A330, H⟩ := H
          replace H : (if t510 = 0 then (if x3_3.length < 3518437208883 then (imageeditorlaw11_RasterTiles.l1 k3 (x3_3 ++ [(⟨t505, t506, t507⟩ : S24)]) x4_2 (wrap64 (x5_3 + 16)) a0_0 a0_1 l0_2) else (none)) else (some false)) = some r := H
          have A33 := Aside0.mk A330
          clear A330
          by_cases c34 : t510 = 0
          ·rw [if_pos c34] at H
           have c34b0 : (t510 == 0) = true := beq_iff_eq.mpr c34
           have c34b1 : (t510 != 0) = false := bne_eq_false_iff_eq.mpr c34
           clear c34
           by_cases c35 : x3_3.length < 3518437208883
           ·rw [if_pos c35] at H
            have LMc35 := Aside0.mk c35
            clear c35
            obtain ⟨y512, hy512⟩ : ∃ y_ : List (S24), y_ = (x3_3 ++ [(⟨t505, t506, t507⟩ : S24)]) := ⟨_, rfl⟩
            replace H : (imageeditorlaw11_RasterTiles.l1 k3 y512 x4_2 (wrap64 (x5_3 + 16)) a0_0 a0_1 l0_2) = some r := by first | (rw [hy512]; with_reducible exact H) | (have H2_ := (Option.bind_some _ _).symm.trans H; rw [hy512]; with_reducible exact H2_) | (have H2_ := (Option.bind_some _ _).symm.trans H; with_reducible exact H2_) | with_reducible exact H | (rw [hy512]; exact H) | exact H
            have Ny512 := Aside0.mk hy512
            clear hy512
            as_aux_lemma =>
             have H' := Aside0.mk H
             clear H
             obtain ⟨hcz36_0, hcz36_1, hcz36_2, hfz36_0, hfz36_1, hfz36_2⟩ := zq3 BK492
             go_wp2_with (first | ((with_reducible refine gate_callee (f := 27) rfl ?_); refine goesL_ (some 55) rfl rfl Try.func27 (by kernel_rfl) rfl #[.agg #[.int .i64 a0_0, .int .i64 a0_1, .slice A0_2 l0_2.length c0_2], .agg #[.int .i64 x5_3, .int .i64 x4_2, .int .i64 ji31, .int .i64 ji32]] rfl (by (try simp only [List.map_toArray, List.map_cons, List.map_nil]); first | done | (simp only [hji31, hji32]; rfl) | rfl | (simp only [List.length_drop, List.length_take]; rfl)) ?_; (with_reducible refine (raster_Crop.calls k3 a0_0 a0_1 _ _ l0_2 x5_3 x4_2 ji31 ji32 t505 t506 t507 t510 _ ?side1 ?side2 A33.out).mono ?_); (case side1 => repeat (first | exact (Kd.C_below HR0_2.out HB.out) | (with_reducible refine Kd.C_alloc ?_ _) | (with_reducible refine Kd.C_drewN ?_ _) | (with_reducible refine Kd.C_drew ?_))); (case side2 => exact HC0_2.out); rintro e w37 ⟨v508, rfl, ho0, hb⟩; refine ⟨_, rfl, ?_⟩; have HO509 := zl HB ho0; have n0_ := Aside0.mk (Kd.S_elder' (by (with_reducible repeat (first | apply Kd.S_alloc | apply Kd.S_drewN | apply Kd.S_drew)); exact HO_3.out) (Kd.R_base ho0) hb); replace BK492 := zk BK492 hb; replace HB := zb HB hb; clear HO_3; have HO_3 := n0_; clear n0_; (try clear hb); (try clear hb2); (try clear hk); (try clear hi); (try clear ho0)) | ((with_reducible refine gate_dst (N := 6) rfl ?_); refine box_event ?hg (N := 6) ?hd (cs := #[.int .i64 0, .int .i64 0, .slice none 0 0]) (t := 24) ?hr ?_; (case hd => rfl); (case hg => rfl); (case hr => first | (go_simp; done) | (go_simp; rfl)); intro gb511 hg w38 hbox hb; have GW511 := zg HB hg; have GE511 := zg HB hg; have NB492_511 := zn BK492 hg; have NB511_492 := zn' BK492 hg; have n0_ := Aside0.mk (Kd.S_below (Kd.S_elderB (by (with_reducible repeat (first | apply Kd.S_alloc | apply Kd.S_drewN | apply Kd.S_drew)); exact HO_3.out) gb511 (Nat.le_of_eq hg.symm)) hb); have n1_ := Aside0.mk (hbox); replace HO509 := zr HO509 hb; replace BK492 := zk BK492 hb; replace HB := zb HB hb; clear HO_3; have HO_3 := n0_; have BK511 := n1_; clear n0_ n1_; clear hb hbox hg; have hnb39 := NB511_492.out; have hnc39 := NB492_511.out; obtain ⟨hcz40_0, hcz40_1, hcz40_2, hfz40_0, hfz40_1, hfz40_2⟩ := zq3 BK511; obtain ⟨Ao41, co41, eo41⟩ := Kd.R_slice HO509.out; subst eo41) | ((with_reducible refine gate_store (t := 24) (p := 6) rfl ?_); refine store_event (t := 24) (p := 6) (v := ?vo_w42) (w1 := (((w38.setCell ⟨gb511, 0, none⟩ (.int .i64 t505)).setCell ⟨gb511, 1, none⟩ (.int .i64 t506)).setCell ⟨gb511, 2, none⟩ (.slice Ao41 t507.length co41))) ?hg ?ho ?hn ?hr ?_; (case ho => rfl); (case hg => rfl); (case hn => rfl); (case hr => first | (go_simp; done) | (go_simp; rfl)); intro w42 hw; have n0_ : Aside0 (Kd.S k24 24 w42 w.heap.size (fun k_ => some k_ ≠ (.slice Ao41 t507.length co41 : Value).ownBlock ∧ k_ ≠ gb492 ∧ k_ ≠ gb511) u3 x3_3) := ⟨(by rw [hw]; exact (by (with_reducible repeat (first | apply Kd.S_alloc | apply Kd.S_drewN | apply Kd.S_drew)); exact Kd.S_mono (Kd.S_far (p := ⟨gb511, 2, none⟩) (Kd.S_far (p := ⟨gb511, 1, none⟩) (Kd.S_far (p := ⟨gb511, 0, none⟩) (Kd.S_mono HO_3.out (fun k_ hk => (⟨hk, hk.2⟩ : _ ∧ k_ ≠ gb511))) (fun _ hk => hk.2) (.int .i64 t505)) (fun _ hk => hk.2) (.int .i64 t506)) (fun _ hk => hk.2) (.slice Ao41 t507.length co41)) (fun _ hk => ⟨hk.1.1.2, ⟨hk.1.1.1, hk.1.2⟩⟩)))⟩; have n1_ : Aside0 (Kd.R k26 26 w42 w.heap.size (fun _ => True) (.slice Ao41 t507.length co41) t507) := ⟨(by rw [hw]; exact (by exact zro HO509 BK511 (by decide)))⟩; have n2_ : Aside0 (w42.heap[gb492]? = some (.cells #[.int .i64 a0_0, .int .i64 a0_1, .slice A0_2 l0_2.length c0_2] 24 (0, 0))) := ⟨(by rw [hw]; exact (by exact zf BK492 NB492_511))⟩; have n3_ : Aside0 (w42.heap[gb511]? = some (.cells #[.int .i64 t505, .int .i64 t506, .slice Ao41 t507.length co41] 24 (0, 0))) := ⟨(by rw [hw]; exact (by exact zp BK511 rfl))⟩; have n4_ : Aside0 (Below w.heap.size w w42) := ⟨(by rw [hw]; exact (by exact zbo HB GE511))⟩; clear hw; clear HO_3; clear HO509; clear BK492; clear BK511; clear HB; have HO_3 := n0_; have HO509 := n1_; have BK492 := n2_; have BK511 := n3_; have HB := n4_; clear n0_ n1_ n2_ n3_ n4_; obtain ⟨hcz43_0, hcz43_1, hcz43_2, hfz43_0, hfz43_1, hfz43_2⟩ := zq3 BK511) | ((with_reducible refine gate_builtin (b := .append) (xs := #[.tmp 60, .tmp 62]) rfl ?_); at_builtin; refine Kd.S_append k24 (w0 := w) w.heap.size rfl (.tmp 60) (.tmp 62) 47 24 (.agg #[(.int .i64 0), (.int .i64 0), (.slice none 0 0)]) 40 rfl Try.underlying47 info24 rfl (by decide) (by omega) u3 x3_3 (⟨t505, t506, t507⟩ : S24) [.int .i64 t505, .int .i64 t506, .slice Ao41 t507.length co41] (fun k_ => k_ ≠ gb492 ∧ k_ ≠ gb511) (fun k_ => some k_ = (.slice Ao41 t507.length co41 : Value).ownBlock) rfl rfl ?aP (fun k_ hk_ => ((Kd.R_mono (ok' := fun k_ => ((fun k_ => k_ ≠ gb492 ∧ k_ ≠ gb511)) k_ ∧ some k_ ≠ (u3 : Value).ownBlock) (Kd.R_types (Kd.R_types (Kd.R_apart' (HO509.out) (Kd.S_typed HO_3.out) (by decide)) BK492.out (by decide)) BK511.out (by decide)) (fun k_ hk => ⟨⟨hk.1.2, hk.2⟩, hk.1.1.2⟩))).1 k_ hk_.symm) ?aF ?aO ?aB ?aS ?aL ?_; (case aP => exact k24_mkM _ _ _ (⟨t505, t506, t507⟩ : S24) (Kd.R_mono (Kd.R_tight rfl (Kd.R_mono (ok' := fun k_ => ((fun k_ => k_ ≠ gb492 ∧ k_ ≠ gb511)) k_ ∧ some k_ ≠ (u3 : Value).ownBlock) (Kd.R_types (Kd.R_types (Kd.R_apart' (HO509.out) (Kd.S_typed HO_3.out) (by decide)) BK492.out (by decide)) BK511.out (by decide)) (fun k_ hk => ⟨⟨hk.1.2, hk.2⟩, hk.1.1.2⟩))) (fun _ h_ => h_))); (case aB => exact (by exact zb0 HB)); (case aF => exact (fun k_ hk => ⟨Kd.freshB (zk0 BK492) k_ hk, Kd.freshB (zk0 BK511) k_ hk⟩)); (case aO => exact (by (with_reducible repeat (first | apply Kd.S_alloc | apply Kd.S_drewN | apply Kd.S_drew)); exact Kd.S_mono HO_3.out (fun k_ hk => ⟨⟨hk.2.1, hk.2.2⟩, fun e_ => hk.1 e_⟩))); (case aS => exact (below_size (by exact zb0 HB))); (case aL => have := LMc35.out; omega); intro v513 w44 ho hb hg hat; rw [← Ny512.out] at ho; have n0_ := Aside0.mk (blk_grown (zk0 BK492) hg (Kd.S_away HO_3.out (fun _ hk => hk.2.1))); have n1_ := Aside0.mk (blk_grown (zk0 BK511) hg (Kd.S_away HO_3.out (fun _ hk => hk.2.2))); have n2_ := Aside0.mk (hb); have n3_ := Aside0.mk (ho); clear BK492; clear BK511; clear HB; clear HO_3; clear HO509; have BK492 := n0_; have BK511 := n1_; have HB := n2_; have HO514 := n3_; clear n0_ n1_ n2_ n3_; clear ho hb hg hat))
             first | go_roundg k3 | ((try subst hji32); (try subst hji31); go_roundg k3)
             case measure => have := HJ1.out; have := HK2.out; have := HK3.out; omega
             case rel => first | (exact ⟨(y512), (wrap64 (x5_3 + 16)), (by first | rfl | (simp; done) | (simp [*]; done)), H', ⟨by have := HJ1.out; have := HK2.out; have := HK3.out; omega⟩, ⟨by (with_reducible repeat (first | apply Kd.S_alloc | apply Kd.S_drewN | apply Kd.S_drew)); exact Kd.S_mono HO514.out (fun _ hk => hk.1)⟩, ⟨by exact zk0 BK492⟩, ⟨by exact zb0 HB⟩⟩) | (exact ⟨(y512), (wrap64 (x5_3 + 16)), (by first | rfl | (simp; done) | (simp [*]; done)), H', ⟨by have := HJ1.out; have := HK2.out; have := HK3.out; omega⟩, ⟨by (with_reducible repeat (first | apply Kd.S_alloc | apply Kd.S_drewN | apply Kd.S_drew)); exact Kd.S_mono HO514.out (fun _ hk => hk.1)⟩, ⟨by exact zk0 BK492⟩, ⟨by exact zb0 HB⟩⟩)
           ·rw [if_neg c35] at H
            exact absurd H (by simp)
          ·rw [if_neg c34] at H
           have c34b0 : (t510 == 0) = false := beq_eq_false_iff_ne.mpr c34
           have c34b1 : (t510 != 0) = true := bne_iff_ne.mpr c34
           as_aux_lemma =>
            exact absurd HT.out (by rw [← Option.some.inj H]; decide)
         ·rw [if_neg c30] at H
          have c30b0 : decide (x5_3 < a0_0) = false := decide_eq_false c30
          clear c30
          as_aux_lemma =>
           have H' := Aside0.mk H
           clear H
           obtain ⟨hcz45_0, hcz45_1, hcz45_2, hfz45_0, hfz45_1, hfz45_2⟩ := zq3 BK492
           go_wp2
           go_roundg k3
           case measure => have := HJ1.out; have := HK2.out; have := HK3.out; omega
           case rel => exact ⟨(x3_3), (wrap64 (x4_2 + 16)), (by first | rfl | (simp; done) | (simp [*]; done)), H', ⟨by have := HJ1.out; have := HK2.out; have := HK3.out; omega⟩, ⟨by (with_reducible repeat (first | apply Kd.S_alloc | apply Kd.S_drewN | apply Kd.S_drew)); exact HO_3.out⟩, ⟨by exact zk0 BK492⟩, ⟨by exact zb0 HB⟩⟩
      ·rw [if_neg c28] at H
       have c28b0 : decide (x4_2 < a0_1) = false := decide_eq_false c28
       clear c28
       replace H := Option.bind_eq_some_iff.mp H
       obtain ⟨⟨t497, t498, t499, t502⟩, A460, H⟩ := H
       replace H : (if t502 = 0 then ((imageeditorlaw11_same.f k2 t497 t498 t499 a0_0 a0_1 l0_2).bind fun t504 => (some t504)) else (some false)) = some r := H
       have A46 := Aside0.mk A460
       clear A460
       by_cases c47 : t502 = 0
       ·rw [if_pos c47] at H
        have c47b0 : (t502 == 0) = true := beq_iff_eq.mpr c47
        have c47b1 : (t502 != 0) = false := bne_eq_false_iff_eq.mpr c47
        clear c47
        replace H := Option.bind_eq_some_iff.mp H
        obtain ⟨t504, A480, H⟩ := H
        replace H : (some t504) = some r := H
        have A48 := Aside0.mk A480
        clear A480
        as_aux_lemma =>
         obtain rfl := Option.some.inj H
         obtain ⟨hcz49_0, hcz49_1, hcz49_2, hfz49_0, hfz49_1, hfz49_2⟩ := zq3 BK492
         obtain ⟨Ao50, co50, eo50⟩ := Kd.S_slice HO_3.out
         subst eo50
         go_wp2_with (first | ((with_reducible refine gate_callee (f := 35) rfl ?_); refine goesL_ (some 70) rfl rfl Try.func35 (by kernel_rfl) rfl #[.int .i64 a0_0, .int .i64 a0_1, .slice Ao50 x3_2.length co50] rfl (by (try simp only [List.map_toArray, List.map_cons, List.map_nil]); first | done | rfl | (simp only [List.length_drop, List.length_take]; rfl)) ?_; (with_reducible refine (raster_Join.calls k2 a0_0 a0_1 _ _ x3_2 t497 t498 t499 t502 _ ?side1 ?side2 A46.out).mono ?_); (case side1 => repeat (first | exact (Kd.S_reads' HO_3.out).2.2 | (with_reducible refine Kd.C_alloc ?_ _) | (with_reducible refine Kd.C_drewN ?_ _) | (with_reducible refine Kd.C_drew ?_))); (case side2 => exact (Kd.S_reads' HO_3.out).2.1); rintro e w51 ⟨v500, rfl, ho0, hb⟩; refine ⟨_, rfl, ?_⟩; have HO501 := zl HB ho0; have n0_ := Aside0.mk (Kd.S_elder' (by (with_reducible repeat (first | apply Kd.S_alloc | apply Kd.S_drewN | apply Kd.S_drew)); exact HO_3.out) (Kd.R_base ho0) hb); replace BK492 := zk BK492 hb; replace HB := zb HB hb; clear HO_3; have HO_3 := n0_; clear n0_; (try clear hb); (try clear hb2); (try clear hk); (try clear hi); (try clear ho0); (try clear HO_3)) | ((with_reducible refine gate_dst (N := 8) rfl ?_); refine box_event ?hg (N := 8) ?hd (cs := #[.int .i64 0, .int .i64 0, .slice none 0 0]) (t := 24) ?hr ?_; (case hd => rfl); (case hg => rfl); (case hr => first | (go_simp; done) | (go_simp; rfl)); intro gb503 hg w52 hbox hb; have GW503 := zg HB hg; have GE503 := zg HB hg; have NB492_503 := zn BK492 hg; have NB503_492 := zn' BK492 hg; have n0_ := Aside0.mk (hbox); replace HO501 := zr HO501 hb; replace BK492 := zk BK492 hb; replace HB := zb HB hb; have BK503 := n0_; clear n0_; clear hb hbox hg; have hnb53 := NB503_492.out; have hnc53 := NB492_503.out; obtain ⟨hcz54_0, hcz54_1, hcz54_2, hfz54_0, hfz54_1, hfz54_2⟩ := zq3 BK503; obtain ⟨Ao55, co55, eo55⟩ := Kd.R_slice HO501.out; subst eo55; obtain ⟨hcz56_0, hcz56_1, hcz56_2, hfz56_0, hfz56_1, hfz56_2⟩ := zq3 BK492) | (go_at_call 20; (with_reducible refine (imageeditorlaw11_same.calls k2 t497 t498 _ _ t499 a0_0 a0_1 _ _ l0_2 t504 _ ?side1 ?side2 ?side3 ?side4 A48.out).mono ?_); (case side1 => refine (Kd.R_reads' (e := 26) (base := w.heap.size) (ok := fun k_ => True) (n := t499.length) (c := co55) ?_).2.2; exact (by exact zro HO501 BK503 (by decide))); (case side2 => exact (Kd.R_reads' HO501.out).2.1); (case side3 => exact Kd.C_below HR0_2.out (by exact zbo HB GE503)); (case side4 => exact HC0_2.out); rintro e w57 ⟨rfl, hb⟩; have n0_ := Aside0.mk (Kd.R_below (by exact zro HO501 BK503 (by decide)) hb); have n1_ := Aside0.mk (blk_below (g := gb503) (o := .cells #[.int .i64 t497, .int .i64 t498, .slice Ao55 t499.length co55] 24 (0, 0)) (by exact zp BK503 rfl) hb); have n2_ := Aside0.mk (below_step (by exact zbo HB GE503) hb); replace BK492 := zfk BK492 NB492_503 hb; clear HO501; clear BK503; clear HB; have HO501 := n0_; have BK503 := n1_; have HB := n2_; clear n0_ n1_ n2_; (try clear hb); (try clear hb2); (try clear hk); (try clear hi)))
         go_ret
         exact ⟨by first | rfl | (simp [errW_none, errW_some] <;> rfl) | (simp [*, errW_none, errW_some] <;> rfl), by exact zb0 HB⟩
       ·rw [if_neg c47] at H
        have c47b0 : (t502 == 0) = false := beq_eq_false_iff_ne.mpr c47
        have c47b1 : (t502 != 0) = true := bne_iff_ne.mpr c47
        as_aux_lemma =>
         exact absurd HT.out (by rw [← Option.some.inj H]; decide)

end Go.Proofs.Ytjepbimgddgijaa.G
