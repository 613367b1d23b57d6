-- Written by a program of this session (wip/gx.py over the kit's print); Lean checks it.
import Derived.Test.YtmmncannibnklaaG0
import Derived.Test.YtmmncannibnklaaG6
import Derived.Test.YtmmncannibnklaaG7
import Derived.Test.YtmmncannibnklaaG16
namespace Go.Proofs.Ytmmncannibnklaa.G
open Go.RowKit Go.Proofs.YtmmncannibnklaaW.PrintWords Go.Proofs.YtmmncannibnklaaW.PrintLast Go.Proofs.YtmmncannibnklaaW.PrintMore
attribute [local go_sem] max2_int min2_int max_two min_two max_three min_three max_four min_four   -- for this text's walks alone
set_option linter.unusedVariables false
set_option linter.unusedSimpArgs false

/-! ### imageeditorref24_Soft: function 16 -/
mutual
def imageeditorref24_Soft.j0 : Nat → Int → Int → Bool → Int → Int → List (S37) → Int → Int → Int → Int → Option (Int × Int × List Int × Int)
 | 0, _, _, _, _, _, _, _, _, _, _ => none
 | k + 1, x2, x3, x33, x524000, x524001, x524002, x525000, x525001, x525002, x525003 => if x33 = true then (some (0, 0, ([] : List Int), 2)) else (if x2 ≥ x3 then (some (0, 0, ([] : List Int), 24)) else (imageeditorref24_Soft.l0 k x2 x3 (x524002.length : Int) 0 x524000 x524001 x524002 x525000 x525001 x525002 x525003 x524000 x524001 ([] : List Int)))
def imageeditorref24_Soft.l0 : Nat → Int → Int → Int → Int → Int → Int → List (S37) → Int → Int → Int → Int → Int → Int → List Int → Option (Int × Int × List Int × Int)
 | 0, _, _, _, _, _, _, _, _, _, _, _, _, _, _ => none
 | k + 1, x2, x3, x46, x47, x524000, x524001, x524002, x525000, x525001, x525002, x525003, x531000, x531001, x531002 => if x47 < x46 then (if 0 ≤ x47 then (if x47 < (x524002.length : Int) then ((imageeditorref06_Dist.f k ((rd_T37 x524002 x47).f0) ((rd_T37 x524002 x47).f1) ((rd_T37 x524002 x47).f2) ((rd_T37 x524002 x47).f3) x525000 x525001 x525002 x525003).bind fun t532 => ((imageeditorref01_Div.f k (wrap64 (65535 * (wrap64 (x3 - t532)))) (wrap64 (x3 - x2))).bind fun t533 => (if t532 ≤ x2 then (if t532 ≥ x3 then (if x531002.length < 17592186044416 then (imageeditorref24_Soft.l0 k x2 x3 x46 (wrap64 (x47 + 1)) x524000 x524001 x524002 x525000 x525001 x525002 x525003 x531000 x531001 (x531002 ++ [0])) else (none)) else (if x531002.length < 17592186044416 then (imageeditorref24_Soft.l0 k x2 x3 x46 (wrap64 (x47 + 1)) x524000 x524001 x524002 x525000 x525001 x525002 x525003 x531000 x531001 (x531002 ++ [65535])) else (none))) else (if t532 ≥ x3 then (if x531002.length < 17592186044416 then (imageeditorref24_Soft.l0 k x2 x3 x46 (wrap64 (x47 + 1)) x524000 x524001 x524002 x525000 x525001 x525002 x525003 x531000 x531001 (x531002 ++ [0])) else (none)) else (if x531002.length < 17592186044416 then (imageeditorref24_Soft.l0 k x2 x3 x46 (wrap64 (x47 + 1)) x524000 x524001 x524002 x525000 x525001 x525002 x525003 x531000 x531001 (x531002 ++ [t533])) else (none)))))) else (none)) else (none)) else (some (x531000, x531001, x531002, 0))
end
def imageeditorref24_Soft.f (k : Nat) (a0_0 : Int) (a0_1 : Int) (l0_2 : List (S37)) (a1_0 : Int) (a1_1 : Int) (a1_2 : Int) (a1_3 : Int) (a2 : Int) (a3 : Int) : Option (Int × Int × List Int × Int) := (imageeditorref11_Check.f k a0_0 a0_1 l0_2).bind fun t526 => (if t526 = 0 then ((imageeditorref06_Valid.f a1_0 a1_1 a1_2 a1_3).bind fun t527 => (if t527 = true then ((imageeditorref24_unit.f a2).bind fun t528 => (if t528 = true then ((imageeditorref24_unit.f a3).bind fun t529 => (imageeditorref24_Soft.j0 k a2 a3 (!t529) a0_0 a0_1 l0_2 a1_0 a1_1 a1_2 a1_3)) else (imageeditorref24_Soft.j0 k a2 a3 true a0_0 a0_1 l0_2 a1_0 a1_1 a1_2 a1_3))) else (imageeditorref24_Soft.j0 k a2 a3 true a0_0 a0_1 l0_2 a1_0 a1_1 a1_2 a1_3))) else (some (0, 0, ([] : List Int), t526)))
theorem imageeditorref24_Soft.mono_l : ∀ k, (∀ y0 y1 y2 y3 y4 y5 y6 y7 y8 y9, LeO (imageeditorref24_Soft.j0 k y0 y1 y2 y3 y4 y5 y6 y7 y8 y9) (imageeditorref24_Soft.j0 (k + 1) y0 y1 y2 y3 y4 y5 y6 y7 y8 y9)) ∧ (∀ y0 y1 y2 y3 y4 y5 y6 y7 y8 y9 y10 y11 y12 y13, LeO (imageeditorref24_Soft.l0 k y0 y1 y2 y3 y4 y5 y6 y7 y8 y9 y10 y11 y12 y13) (imageeditorref24_Soft.l0 (k + 1) y0 y1 y2 y3 y4 y5 y6 y7 y8 y9 y10 y11 y12 y13))
 | 0 => ⟨fun _ _ _ _ _ _ _ _ _ _ r h => by simp [imageeditorref24_Soft.j0] at h, fun _ _ _ _ _ _ _ _ _ _ _ _ _ _ r h => by simp [imageeditorref24_Soft.l0] at h⟩
 | k + 1 => by
  obtain ⟨ih0, ih1⟩ := imageeditorref24_Soft.mono_l k
  refine ⟨?_, ?_⟩
  ·intro y0 y1 y2 y3 y4 y5 y6 y7 y8 y9
   unfold imageeditorref24_Soft.j0
   repeat' first
   | (with_reducible exact ih0 _ _ _ _ _ _ _ _ _ _)
   | (with_reducible exact ih1 _ _ _ _ _ _ _ _ _ _ _ _ _ _)
   | (with_reducible exact imageeditorref01_Div.mono _ _ _)
   | (with_reducible exact imageeditorref06_Dist.mono _ _ _ _ _ _ _ _ _)
   | (with_reducible exact imageeditorref11_Check.mono _ _ _ _)
   | (with_reducible exact LeO.refl _)
   | (with_reducible exact LeO.none _)
   | (with_reducible refine LeO.ite ?_ ?_)
   | (with_reducible refine LeO.bind ?_ (fun _ => ?_))
   | exact ih0 _ _ _ _ _ _ _ _ _ _
   | exact ih1 _ _ _ _ _ _ _ _ _ _ _ _ _ _
   | exact imageeditorref01_Div.mono _ _ _
   | exact imageeditorref06_Dist.mono _ _ _ _ _ _ _ _ _
   | exact imageeditorref11_Check.mono _ _ _ _
   | exact LeO.none _
   | refine LeO.ite ?_ ?_
   | refine LeO.bind ?_ (fun _ => ?_)
  ·intro y0 y1 y2 y3 y4 y5 y6 y7 y8 y9 y10 y11 y12 y13
   unfold imageeditorref24_Soft.l0
   repeat' first
   | (with_reducible exact ih0 _ _ _ _ _ _ _ _ _ _)
   | (with_reducible exact ih1 _ _ _ _ _ _ _ _ _ _ _ _ _ _)
   | (with_reducible exact imageeditorref01_Div.mono _ _ _)
   | (with_reducible exact imageeditorref06_Dist.mono _ _ _ _ _ _ _ _ _)
   | (with_reducible exact imageeditorref11_Check.mono _ _ _ _)
   | (with_reducible exact LeO.refl _)
   | (with_reducible exact LeO.none _)
   | (with_reducible refine LeO.ite ?_ ?_)
   | (with_reducible refine LeO.bind ?_ (fun _ => ?_))
   | exact ih0 _ _ _ _ _ _ _ _ _ _
   | exact ih1 _ _ _ _ _ _ _ _ _ _ _ _ _ _
   | exact imageeditorref01_Div.mono _ _ _
   | exact imageeditorref06_Dist.mono _ _ _ _ _ _ _ _ _
   | exact imageeditorref11_Check.mono _ _ _ _
   | exact LeO.none _
   | refine LeO.ite ?_ ?_
   | refine LeO.bind ?_ (fun _ => ?_)
theorem imageeditorref24_Soft.mono : ∀ a0 a1 a2 a3 a4 a5 a6 a7 a8 k, LeO (imageeditorref24_Soft.f k a0 a1 a2 a3 a4 a5 a6 a7 a8) (imageeditorref24_Soft.f (k + 1) a0 a1 a2 a3 a4 a5 a6 a7 a8) := by
 intro a0 a1 a2 a3 a4 a5 a6 a7 a8 k
 obtain ⟨ih0, ih1⟩ := imageeditorref24_Soft.mono_l k
 unfold imageeditorref24_Soft.f
 repeat' first
   | (with_reducible exact ih0 _ _ _ _ _ _ _ _ _ _)
   | (with_reducible exact ih1 _ _ _ _ _ _ _ _ _ _ _ _ _ _)
   | (with_reducible exact imageeditorref01_Div.mono _ _ _)
   | (with_reducible exact imageeditorref06_Dist.mono _ _ _ _ _ _ _ _ _)
   | (with_reducible exact imageeditorref11_Check.mono _ _ _ _)
   | (with_reducible exact LeO.refl _)
   | (with_reducible exact LeO.none _)
   | (with_reducible refine LeO.ite ?_ ?_)
   | (with_reducible refine LeO.bind ?_ (fun _ => ?_))
   | exact ih0 _ _ _ _ _ _ _ _ _ _
   | exact ih1 _ _ _ _ _ _ _ _ _ _ _ _ _ _
   | exact imageeditorref01_Div.mono _ _ _
   | exact imageeditorref06_Dist.mono _ _ _ _ _ _ _ _ _
   | exact imageeditorref11_Check.mono _ _ _ _
   | exact LeO.none _
   | refine LeO.ite ?_ ?_
   | refine LeO.bind ?_ (fun _ => ?_)
def imageeditorref24_Soft.T12 : Bool × List (List Nat × List Nat) := (true, [([], []), ([0], [0]), ([], []), ([1, 2], [1, 2]), ([3], [3]), ([], []), ([4, 5], [4, 5]), ([6, 6, 0, 1, 2, 3, 4, 5, 6], [6])])
def imageeditorref24_Soft.B12 : List Nat := [0, 1, 0, 7, 15, 0, 63, 127]
theorem imageeditorref24_Soft.tab12 : rtab .any (opsOf Try.f16 12) = imageeditorref24_Soft.T12 := by kernel_rfl
theorem imageeditorref24_Soft.bits12 : waitsOk imageeditorref24_Soft.T12.2 imageeditorref24_Soft.B12 = true := by kernel_rfl
set_option maxHeartbeats 8000000 in
set_option maxRecDepth 100000 in
theorem imageeditorref24_Soft.calls (k : Nat) (a0_0 : Int) (a0_1 : Int) (A0_2 : Option Addr) (c0_2 : Nat) (l0_2 : List (S37)) (a1_0 : Int) (a1_1 : Int) (a1_2 : Int) (a1_3 : Int) (a2 : Int) (a3 : Int) (r1 : Int) (r2 : Int) (r3 : List Int) (r4 : Int) (w : World) (hr0_2 : Kd.C k37 w A0_2 l0_2.length l0_2) (hc0_2 : l0_2.length ≤ c0_2) (h : imageeditorref24_Soft.f k a0_0 a0_1 l0_2 a1_0 a1_1 a1_2 a1_3 a2 a3 = some (r1, r2, r3, r4)) :
  Calls Try.prog 16 #[.agg #[.int .i64 a0_0, .int .i64 a0_1, .slice A0_2 l0_2.length c0_2], .agg #[.int .i64 a1_0, .int .i64 a1_1, .int .i64 a1_2, .int .i64 a1_3], .int .i64 a2, .int .i64 a3] w fun e w' => ∃ v2_ : Value, e = .returned (.tuple #[.agg #[.int .i64 r1, .int .i64 r2, v2_], .int .i64 r4]) ∧ Kd.R (Kd.int .i64) 3 w' w.heap.size (fun _ => True) v2_ r3 ∧ Below w.heap.size w w' := by
 have hu24 := Try.underlying24
 have hu37 := Try.underlying37
 have hu29 := Try.underlying29
 have HR0_2 := Aside0.mk hr0_2
 have HC0_2 := Aside0.mk hc0_2
 clear hr0_2 hc0_2
 have HB := Aside0.mk (Below.refl w.heap.size w)
 have H : ((imageeditorref11_Check.f k a0_0 a0_1 l0_2).bind fun t526 => (if t526 = 0 then ((imageeditorref06_Valid.f a1_0 a1_1 a1_2 a1_3).bind fun t527 => (if t527 = true then ((imageeditorref24_unit.f a2).bind fun t528 => (if t528 = true then ((imageeditorref24_unit.f a3).bind fun t529 => (imageeditorref24_Soft.j0 k a2 a3 (!t529) a0_0 a0_1 l0_2 a1_0 a1_1 a1_2 a1_3)) else (imageeditorref24_Soft.j0 k a2 a3 true a0_0 a0_1 l0_2 a1_0 a1_1 a1_2 a1_3))) else (imageeditorref24_Soft.j0 k a2 a3 true a0_0 a0_1 l0_2 a1_0 a1_1 a1_2 a1_3))) else (some (0, 0, ([] : List Int), t526)))) = some (r1, r2, r3, r4) := h
 clear h
 replace H := Option.bind_eq_some_iff.mp H
 obtain ⟨t526, A50, H⟩ := H
 replace H : (if t526 = 0 then ((imageeditorref06_Valid.f a1_0 a1_1 a1_2 a1_3).bind fun t527 => (if t527 = true then ((imageeditorref24_unit.f a2).bind fun t528 => (if t528 = true then ((imageeditorref24_unit.f a3).bind fun t529 => (imageeditorref24_Soft.j0 k a2 a3 (!t529) a0_0 a0_1 l0_2 a1_0 a1_1 a1_2 a1_3)) else (imageeditorref24_Soft.j0 k a2 a3 true a0_0 a0_1 l0_2 a1_0 a1_1 a1_2 a1_3))) else (imageeditorref24_Soft.j0 k a2 a3 true a0_0 a0_1 l0_2 a1_0 a1_1 a1_2 a1_3))) else (some (0, 0, ([] : List Int), t526))) = some (r1, r2, r3, r4) := H
 have A5 := Aside0.mk A50
 clear A50
 by_cases c6 : t526 = 0
 ·rw [if_pos c6] at H
  have c6b0 : (t526 == 0) = true := beq_iff_eq.mpr c6
  have c6b1 : (t526 != 0) = false := bne_eq_false_iff_eq.mpr c6
  clear c6
  have HC7 := Aside0.mk H
  clear H
  go_enter Try.func16, Try.ntmps16
  go_upto_region 4 with (first | ((with_reducible refine gate_dst (N := 4) rfl ?_); refine box_event ?hg (N := 4) ?hd (cs := #[.int .i64 a0_0, .int .i64 a0_1, .slice A0_2 l0_2.length c0_2]) (t := 24) ?hr ?_; (case hd => rfl); (case hg => rfl); (case hr => first | (go_simp; done) | (go_simp; rfl)); intro gb523 hg w8 hbox hb; have GW523 := zg HB hg; have GE523 := zg HB hg; have n0_ := Aside0.mk (hbox); replace HB := zb HB hb; have BK523 := n0_; clear n0_; clear hb hbox hg) | ((with_reducible refine gate_dst (N := 5) rfl ?_); refine box_event ?hg (N := 5) ?hd (cs := #[.int .i64 a1_0, .int .i64 a1_1, .int .i64 a1_2, .int .i64 a1_3]) (t := 37) ?hr ?_; (case hd => rfl); (case hg => rfl); (case hr => first | (go_simp; done) | (go_simp; rfl)); intro gb524 hg w9 hbox hb; have GW524 := zg HB hg; have GE524 := zg HB hg; have NB523_524 := zn BK523 hg; have NB524_523 := zn' BK523 hg; have n0_ := Aside0.mk (hbox); replace BK523 := zk BK523 hb; replace HB := zb HB hb; have BK524 := n0_; clear n0_; clear hb hbox hg) | ((with_reducible refine gate_dst (N := 8) rfl ?_); refine box_event ?hg (N := 8) ?hd (cs := #[.int .i64 0, .int .i64 0, .slice none 0 0]) (t := 29) ?hr ?_; (case hd => rfl); (case hg => rfl); (case hr => first | (go_simp; done) | (go_simp; rfl)); intro gb525 hg w10 hbox hb; have GW525 := zg HB hg; have GE525 := zg HB hg; have NB523_525 := zn BK523 hg; have NB525_523 := zn' BK523 hg; have NB524_525 := zn BK524 hg; have NB525_524 := zn' BK524 hg; have n0_ := Aside0.mk (hbox); replace BK523 := zk BK523 hb; replace BK524 := zk BK524 hb; replace HB := zb HB hb; have BK525 := n0_; clear n0_; clear hb hbox hg; obtain ⟨hcz11_0, hcz11_1, hcz11_2, hfz11_0, hfz11_1, hfz11_2⟩ := zq3 BK523) | ((with_reducible refine gate_callee (f := 19) rfl ?_); refine goesL_ (some 16) rfl rfl Try.func19 (by kernel_rfl) rfl #[.agg #[.int .i64 a0_0, .int .i64 a0_1, .slice A0_2 l0_2.length c0_2]] rfl (by (try simp only [List.map_toArray, List.map_cons, List.map_nil]); first | done | rfl | (simp only [List.length_drop, List.length_take]; rfl)) ?_; (with_reducible refine (imageeditorref11_Check.calls k a0_0 a0_1 _ _ l0_2 t526 _ ?side1 ?side2 A5.out).mono ?_); (case side1 => repeat (first | exact (Kd.C_below HR0_2.out HB.out) | (with_reducible refine Kd.C_alloc ?_ _) | (with_reducible refine Kd.C_drewN ?_ _) | (with_reducible refine Kd.C_drew ?_))); (case side2 => exact HC0_2.out); rintro e w12 ⟨rfl, hb⟩; refine ⟨_, rfl, ?_⟩; replace BK523 := zk BK523 hb; replace BK524 := zk BK524 hb; replace BK525 := zk BK525 hb; replace HB := zb HB hb; (try clear hb); (try clear hb2); (try clear hk); (try clear hi)))
  (try simp only [Act.put, sA, sB, sC])
  go_cut [33] (fun v33 wc => ∃ (kq : Nat) (x33_6 : Bool), v33 = .bool x33_6 ∧ Aside0 (imageeditorref24_Soft.j0 kq a2 a3 x33_6 a0_0 a0_1 l0_2 a1_0 a1_1 a1_2 a1_3 = some (r1, r2, r3, r4)) ∧ Aside0 (kq ≤ k) ∧ Aside0 (wc.heap[gb523]? = some (.cells #[.int .i64 a0_0, .int .i64 a0_1, (.slice A0_2 l0_2.length c0_2)] 24 (0, 0))) ∧ Aside0 (wc.heap[gb524]? = some (.cells #[.int .i64 a1_0, .int .i64 a1_1, .int .i64 a1_2, .int .i64 a1_3] 37 (0, 0))) ∧ Aside0 (wc.heap[gb525]? = some (.cells #[.int .i64 0, .int .i64 0, (.slice none 0 0)] 29 (0, 0))) ∧ Aside0 (Below w.heap.size w wc))
  case first =>
   have H := HC7.out
   clear HC7
   replace H := Option.bind_eq_some_iff.mp H
   obtain ⟨t527, A130, H⟩ := H
   replace H : (if t527 = true then ((imageeditorref24_unit.f a2).bind fun t528 => (if t528 = true then ((imageeditorref24_unit.f a3).bind fun t529 => (imageeditorref24_Soft.j0 k a2 a3 (!t529) a0_0 a0_1 l0_2 a1_0 a1_1 a1_2 a1_3)) else (imageeditorref24_Soft.j0 k a2 a3 true a0_0 a0_1 l0_2 a1_0 a1_1 a1_2 a1_3))) else (imageeditorref24_Soft.j0 k a2 a3 true a0_0 a0_1 l0_2 a1_0 a1_1 a1_2 a1_3)) = some (r1, r2, r3, r4) := H
   have A13 := Aside0.mk A130
   clear A130
   by_cases c14 : t527 = true
   ·subst c14
    have H1 : ((imageeditorref24_unit.f a2).bind fun t528 => (if t528 = true then ((imageeditorref24_unit.f a3).bind fun t529 => (imageeditorref24_Soft.j0 k a2 a3 (!t529) a0_0 a0_1 l0_2 a1_0 a1_1 a1_2 a1_3)) else (imageeditorref24_Soft.j0 k a2 a3 true a0_0 a0_1 l0_2 a1_0 a1_1 a1_2 a1_3))) = some (r1, r2, r3, r4) := by rw [if_pos rfl] at H; exact H
    clear H
    have H := H1
    clear H1
    replace H := Option.bind_eq_some_iff.mp H
    obtain ⟨t528, A150, H⟩ := H
    replace H : (if t528 = true then ((imageeditorref24_unit.f a3).bind fun t529 => (imageeditorref24_Soft.j0 k a2 a3 (!t529) a0_0 a0_1 l0_2 a1_0 a1_1 a1_2 a1_3)) else (imageeditorref24_Soft.j0 k a2 a3 true a0_0 a0_1 l0_2 a1_0 a1_1 a1_2 a1_3)) = some (r1, r2, r3, r4) := H
    have A15 := Aside0.mk A150
    clear A150
    by_cases c16 : t528 = true
    ·subst c16
     have H1 : ((imageeditorref24_unit.f a3).bind fun t529 => (imageeditorref24_Soft.j0 k a2 a3 (!t529) a0_0 a0_1 l0_2 a1_0 a1_1 a1_2 a1_3)) = some (r1, r2, r3, r4) := by rw [if_pos rfl] at H; exact H
     clear H
     have H := H1
     clear H1
     replace H := Option.bind_eq_some_iff.mp H
     obtain ⟨t529, A170, H⟩ := H
     replace H : (imageeditorref24_Soft.j0 k a2 a3 (!t529) a0_0 a0_1 l0_2 a1_0 a1_1 a1_2 a1_3) = some (r1, r2, r3, r4) := H
     have A17 := Aside0.mk A170
     clear A170
     have H' := Aside0.mk H
     clear H
     obtain ⟨hcz18_0, hcz18_1, hcz18_2, hcz18_3, hfz18_0, hfz18_1, hfz18_2, hfz18_3⟩ := zq4 BK524
     go_wp2_with (first | ((with_reducible refine gate_callee (f := 34) rfl ?_); refine goesL_ (some 22) rfl rfl Try.func34 (by kernel_rfl) rfl #[.agg #[.int .i64 a1_0, .int .i64 a1_1, .int .i64 a1_2, .int .i64 a1_3]] rfl (by (try simp only [List.map_toArray, List.map_cons, List.map_nil]); first | done | rfl | (simp only [List.length_drop, List.length_take]; rfl)) ?_; (with_reducible refine (imageeditorref06_Valid.calls a1_0 a1_1 a1_2 a1_3 true _ A13.out).mono ?_); rintro e w19 ⟨rfl, hb⟩; refine ⟨_, rfl, ?_⟩; replace BK523 := zk BK523 hb; replace BK524 := zk BK524 hb; replace BK525 := zk BK525 hb; replace HB := zb HB hb; (try clear hb); (try clear hb2); (try clear hk); (try clear hi)) | (go_at_call 25; (with_reducible refine (imageeditorref24_unit.calls a2 true _ A15.out).mono ?_); rintro e w' ⟨rfl, ⟨nd, rfl⟩⟩) | (go_at_call 25; (with_reducible refine (imageeditorref24_unit.calls a3 t529 _ A17.out).mono ?_); rintro e w' ⟨rfl, ⟨nd, rfl⟩⟩))
     go_meet
     case rel => exact ⟨_, (!t529), (by first | rfl | (simp; done) | (simp [*]; done)), H', ⟨by first | omega | exact Nat.le_refl _⟩, ⟨by exact zk0 BK523⟩, ⟨by exact zk0 BK524⟩, ⟨by exact zk0 BK525⟩, ⟨by exact zb0 HB⟩⟩
    ·replace c16 := Bool.eq_false_iff.mpr c16
     subst c16
     have H1 : (imageeditorref24_Soft.j0 k a2 a3 true a0_0 a0_1 l0_2 a1_0 a1_1 a1_2 a1_3) = some (r1, r2, r3, r4) := by rw [if_neg (show ¬ (false = true) by decide)] at H; exact H
     clear H
     have H := H1
     clear H1
     have H' := Aside0.mk H
     clear H
     obtain ⟨hcz20_0, hcz20_1, hcz20_2, hcz20_3, hfz20_0, hfz20_1, hfz20_2, hfz20_3⟩ := zq4 BK524
     go_wp2_with (first | ((with_reducible refine gate_callee (f := 34) rfl ?_); refine goesL_ (some 22) rfl rfl Try.func34 (by kernel_rfl) rfl #[.agg #[.int .i64 a1_0, .int .i64 a1_1, .int .i64 a1_2, .int .i64 a1_3]] rfl (by (try simp only [List.map_toArray, List.map_cons, List.map_nil]); first | done | rfl | (simp only [List.length_drop, List.length_take]; rfl)) ?_; (with_reducible refine (imageeditorref06_Valid.calls a1_0 a1_1 a1_2 a1_3 true _ A13.out).mono ?_); rintro e w21 ⟨rfl, hb⟩; refine ⟨_, rfl, ?_⟩; replace BK523 := zk BK523 hb; replace BK524 := zk BK524 hb; replace BK525 := zk BK525 hb; replace HB := zb HB hb; (try clear hb); (try clear hb2); (try clear hk); (try clear hi)) | (go_at_call 25; (with_reducible refine (imageeditorref24_unit.calls a2 false _ A15.out).mono ?_); rintro e w' ⟨rfl, ⟨nd, rfl⟩⟩))
     go_meet
     case rel => exact ⟨_, (true), (by first | rfl | (simp; done) | (simp [*]; done)), H', ⟨by first | omega | exact Nat.le_refl _⟩, ⟨by exact zk0 BK523⟩, ⟨by exact zk0 BK524⟩, ⟨by exact zk0 BK525⟩, ⟨by exact zb0 HB⟩⟩
   ·replace c14 := Bool.eq_false_iff.mpr c14
    subst c14
    have H1 : (imageeditorref24_Soft.j0 k a2 a3 true a0_0 a0_1 l0_2 a1_0 a1_1 a1_2 a1_3) = some (r1, r2, r3, r4) := by rw [if_neg (show ¬ (false = true) by decide)] at H; exact H
    clear H
    have H := H1
    clear H1
    have H' := Aside0.mk H
    clear H
    obtain ⟨hcz22_0, hcz22_1, hcz22_2, hcz22_3, hfz22_0, hfz22_1, hfz22_2, hfz22_3⟩ := zq4 BK524
    go_wp2_with (first | ((with_reducible refine gate_callee (f := 34) rfl ?_); refine goesL_ (some 22) rfl rfl Try.func34 (by kernel_rfl) rfl #[.agg #[.int .i64 a1_0, .int .i64 a1_1, .int .i64 a1_2, .int .i64 a1_3]] rfl (by (try simp only [List.map_toArray, List.map_cons, List.map_nil]); first | done | rfl | (simp only [List.length_drop, List.length_take]; rfl)) ?_; (with_reducible refine (imageeditorref06_Valid.calls a1_0 a1_1 a1_2 a1_3 false _ A13.out).mono ?_); rintro e w23 ⟨rfl, hb⟩; refine ⟨_, rfl, ?_⟩; replace BK523 := zk BK523 hb; replace BK524 := zk BK524 hb; replace BK525 := zk BK525 hb; replace HB := zb HB hb; (try clear hb); (try clear hb2); (try clear hk); (try clear hi)))
    go_meet
    case rel => exact ⟨_, (true), (by first | rfl | (simp; done) | (simp [*]; done)), H', ⟨by first | omega | exact Nat.le_refl _⟩, ⟨by exact zk0 BK523⟩, ⟨by exact zk0 BK524⟩, ⟨by exact zk0 BK525⟩, ⟨by exact zb0 HB⟩⟩
  case rest =>
   clear HC7
   try clear c1
   try clear p2
   try clear c3
   try clear q3
   try clear q4
   try clear c6
   try clear c6b0
   try clear c6b1
   try clear c14
   try clear c16
   try clear c19
   try clear hcz11_0
   try clear hcz11_1
   try clear hcz11_2
   try clear hcz18_0
   try clear hcz18_1
   try clear hcz18_2
   try clear hcz18_3
   try clear hcz20_0
   try clear hcz20_1
   try clear hcz20_2
   try clear hcz20_3
   try clear hcz22_0
   try clear hcz22_1
   try clear hcz22_2
   try clear hcz22_3
   try clear hfz11_0
   try clear hfz11_1
   try clear hfz11_2
   try clear hfz18_0
   try clear hfz18_1
   try clear hfz18_2
   try clear hfz18_3
   try clear hfz20_0
   try clear hfz20_1
   try clear hfz20_2
   try clear hfz20_3
   try clear hfz22_0
   try clear hfz22_1
   try clear hfz22_2
   try clear hfz22_3
   obtain ⟨kq, x33_6, rfl, HA, HJ6, BK523, BK524, BK525, HB⟩ := hcut
   cases kq with
   | zero => exact absurd HA.out (by simp [imageeditorref24_Soft.j0])
   | succ kj6 =>
    have H := HA.out
    clear HA
    simp only [imageeditorref24_Soft.j0] at H
    by_cases c24 : x33_6 = true
    ·subst c24
     have H1 : (some (0, 0, ([] : List Int), 2)) = some (r1, r2, r3, r4) := by rw [if_pos rfl] at H; exact H
     clear H
     have H := H1
     clear H1
     simp only [Option.some.injEq, Prod.mk.injEq] at H
     obtain ⟨rfl, rfl, rfl, rfl⟩ := H
     have hnb25 := NB525_523.out
     have hnc25 := NB523_525.out
     have hnb26 := NB525_524.out
     have hnc26 := NB524_525.out
     obtain ⟨hcz27_0, hcz27_1, hcz27_2, hfz27_0, hfz27_1, hfz27_2⟩ := zq3 BK525
     go_wp2
     refine bodyPost_ret (results_ct rfl _ _ gb525 29 #[.int .i64 0, .int .i64 0, .slice none 0 0] (0, 0) _ rfl (by exact zp BK525 rfl) Try.underlying29 rfl (by kernel_rfl)) rfl ?_
     exact ⟨_, by first | rfl | (simp [errW_none, errW_some] <;> rfl) | (simp [*, errW_none, errW_some] <;> rfl), by first | exact Kd.R_nil _ _ _ _ _ | exact Kd.N_nil _ _ _ _ _ | exact Kd.V_nil _ _ _ _ _ | exact Kd.Q_nil _ _ _ _ _ | exact Kd.S_nil _ _ _ _ _, by exact zbo HB GE525⟩
    ·replace c24 := Bool.eq_false_iff.mpr c24
     subst c24
     have H1 : (if a2 ≥ a3 then (some (0, 0, ([] : List Int), 24)) else (imageeditorref24_Soft.l0 kj6 a2 a3 (l0_2.length : Int) 0 a0_0 a0_1 l0_2 a1_0 a1_1 a1_2 a1_3 a0_0 a0_1 ([] : List Int))) = some (r1, r2, r3, r4) := by rw [if_neg (show ¬ (false = true) by decide)] at H; exact H
     clear H
     have H := H1
     clear H1
     by_cases c28 : a2 ≥ a3
     ·rw [if_pos c28] at H
      have c28b0 : decide (a3 ≤ a2) = true := decide_eq_true c28
      clear c28
      simp only [Option.some.injEq, Prod.mk.injEq] at H
      obtain ⟨rfl, rfl, rfl, rfl⟩ := H
      have hnb29 := NB525_523.out
      have hnc29 := NB523_525.out
      have hnb30 := NB525_524.out
      have hnc30 := NB524_525.out
      obtain ⟨hcz31_0, hcz31_1, hcz31_2, hfz31_0, hfz31_1, hfz31_2⟩ := zq3 BK525
      go_wp2
      refine bodyPost_ret (results_ct rfl _ _ gb525 29 #[.int .i64 0, .int .i64 0, .slice none 0 0] (0, 0) _ rfl (by exact zp BK525 rfl) Try.underlying29 rfl (by kernel_rfl)) rfl ?_
      exact ⟨_, by first | rfl | (simp [errW_none, errW_some] <;> rfl) | (simp [*, errW_none, errW_some] <;> rfl), by first | exact Kd.R_nil _ _ _ _ _ | exact Kd.N_nil _ _ _ _ _ | exact Kd.V_nil _ _ _ _ _ | exact Kd.Q_nil _ _ _ _ _ | exact Kd.S_nil _ _ _ _ _, by exact zbo HB GE525⟩
     ·rw [if_neg c28] at H
      have c28b0 : decide (a3 ≤ a2) = false := decide_eq_false c28
      clear c28
      have H' := Aside0.mk H
      clear H
      have hnb32 := NB523_524.out
      have hnc32 := NB524_523.out
      have hnb33 := NB523_525.out
      have hnc33 := NB525_523.out
      obtain ⟨hcz34_0, hcz34_1, hcz34_2, hfz34_0, hfz34_1, hfz34_2⟩ := zq3 BK523
      go_wp2_with (first | ((with_reducible refine gate_dst (N := 11) rfl ?_); refine box_event ?hg (N := 11) ?hd (cs := #[.int .i64 0, .int .i64 0, .slice none 0 0]) (t := 29) ?hr ?_; (case hd => rfl); (case hg => rfl); (case hr => first | (go_simp; done) | (go_simp; rfl)); intro gb530 hg w35 hbox hb; have GW530 := zg HB hg; have GE530 := zg HB hg; have NB523_530 := zn BK523 hg; have NB530_523 := zn' BK523 hg; have NB524_530 := zn BK524 hg; have NB530_524 := zn' BK524 hg; have NB525_530 := zn BK525 hg; have NB530_525 := zn' BK525 hg; have n0_ := Aside0.mk (hbox); replace BK523 := zk BK523 hb; replace BK524 := zk BK524 hb; replace BK525 := zk BK525 hb; replace HB := zb HB hb; have BK530 := n0_; clear n0_; clear hb hbox hg; have hnb36 := NB530_523.out; have hnc36 := NB523_530.out; have hnb37 := NB530_524.out; have hnc37 := NB524_530.out; have hnb38 := NB530_525.out; have hnc38 := NB525_530.out; obtain ⟨hcz39_0, hcz39_1, hcz39_2, hfz39_0, hfz39_1, hfz39_2⟩ := zq3 BK530; obtain ⟨hcz40_0, hcz40_1, hcz40_2, hfz40_0, hfz40_1, hfz40_2⟩ := zq3 BK523))
      (try simp only [Act.put, sA, sB, sC])
      go_loopg [47] kj6 (fun kq v47 w' => ∃ (x47_2 : Int) (x531002_2 : List Int) (u531002 : Value), v47 = .int .i64 x47_2 ∧ Aside0 (imageeditorref24_Soft.l0 kq a2 a3 (l0_2.length : Int) x47_2 a0_0 a0_1 l0_2 a1_0 a1_1 a1_2 a1_3 a0_0 a0_1 x531002_2 = some (r1, r2, r3, r4)) ∧ Aside0 (kq ≤ kj6) ∧ Aside0 (Kd.R (Kd.int .i64) 3 w' w.heap.size (fun _ => True) u531002 x531002_2) ∧ Aside0 (w'.heap[gb523]? = some (.cells #[.int .i64 a0_0, .int .i64 a0_1, (.slice A0_2 l0_2.length c0_2)] 24 (0, 0))) ∧ Aside0 (w'.heap[gb524]? = some (.cells #[.int .i64 a1_0, .int .i64 a1_1, .int .i64 a1_2, .int .i64 a1_3] 37 (0, 0))) ∧ Aside0 (w'.heap[gb525]? = some (.cells #[.int .i64 0, .int .i64 0, (.slice none 0 0)] 29 (0, 0))) ∧ Aside0 (w'.heap[gb530]? = some (.cells #[.int .i64 a0_0, .int .i64 a0_1, u531002] 29 (0, 0))) ∧ Aside0 (Below w.heap.size w w'))
      case atStart => exact ⟨(0), (([] : List Int)), (.slice none 0 0), (by first | rfl | (simp; done) | (simp [*]; done)), H', ⟨Nat.le_refl _⟩, ⟨by first | exact Kd.R_nil _ _ _ _ _ | exact Kd.N_nil _ _ _ _ _ | exact Kd.V_nil _ _ _ _ _ | exact Kd.Q_nil _ _ _ _ _ | exact Kd.S_nil _ _ _ _ _⟩, ⟨by exact zf BK523 NB523_530⟩, ⟨by exact zf BK524 NB524_530⟩, ⟨by exact zf BK525 NB525_530⟩, ⟨by exact zp BK530 rfl⟩, ⟨by exact zbo HB GE530⟩⟩
      case round =>
       clear H'
       try clear c1
       try clear c2
       try clear p2
       try clear c3
       try clear q3
       try clear q4
       try clear c6
       try clear c6b0
       try clear c6b1
       try clear c14
       try clear c16
       try clear c19
       try clear c24
       try clear c25
       try clear c26
       try clear c28
       try clear c28b0
       try clear c29
       try clear c30
       try clear c32
       try clear c33
       try clear c34
       try clear c36
       try clear c37
       try clear c38
       try clear hcz11_0
       try clear hcz11_1
       try clear hcz11_2
       try clear hcz18_0
       try clear hcz18_1
       try clear hcz18_2
       try clear hcz18_3
       try clear hcz20_0
       try clear hcz20_1
       try clear hcz20_2
       try clear hcz20_3
       try clear hcz22_0
       try clear hcz22_1
       try clear hcz22_2
       try clear hcz22_3
       try clear hcz27_0
       try clear hcz27_1
       try clear hcz27_2
       try clear hcz31_0
       try clear hcz31_1
       try clear hcz31_2
       try clear hcz34_0
       try clear hcz34_1
       try clear hcz34_2
       try clear hcz39_0
       try clear hcz39_1
       try clear hcz39_2
       try clear hcz40_0
       try clear hcz40_1
       try clear hcz40_2
       try clear hfz11_0
       try clear hfz11_1
       try clear hfz11_2
       try clear hfz18_0
       try clear hfz18_1
       try clear hfz18_2
       try clear hfz18_3
       try clear hfz20_0
       try clear hfz20_1
       try clear hfz20_2
       try clear hfz20_3
       try clear hfz22_0
       try clear hfz22_1
       try clear hfz22_2
       try clear hfz22_3
       try clear hfz27_0
       try clear hfz27_1
       try clear hfz27_2
       try clear hfz31_0
       try clear hfz31_1
       try clear hfz31_2
       try clear hfz34_0
       try clear hfz34_1
       try clear hfz34_2
       try clear hfz39_0
       try clear hfz39_1
       try clear hfz39_2
       try clear hfz40_0
       try clear hfz40_1
       try clear hfz40_2
       try clear p2
       try clear q3
       try clear q4
       obtain ⟨x47_2, x531002_2, u531002, rfl, HA, HK2, HO_531002, BK523, BK524, BK525, BK530, HB⟩ := hrel
       cases gk with
       | zero => exact absurd HA.out (by simp [imageeditorref24_Soft.l0])
       | succ k2 =>
        have H := HA.out
        clear HA
        simp only [imageeditorref24_Soft.l0] at H
        by_cases c41 : x47_2 < (l0_2.length : Int)
        ·rw [if_pos c41] at H
         have c41b0 : decide (x47_2 < (l0_2.length : Int)) = true := decide_eq_true c41
         clear c41
         by_cases c42 : 0 ≤ x47_2
         ·rw [if_pos c42] at H
          have c42b0 : decide (0 ≤ x47_2) = true := decide_eq_true c42
          clear c42
          by_cases c43 : x47_2 < (l0_2.length : Int)
          ·rw [if_pos c43] at H
           have c43b0 : decide (x47_2 < (l0_2.length : Int)) = true := decide_eq_true c43
           clear c43
           replace H := Option.bind_eq_some_iff.mp H
           obtain ⟨t532, A440, H⟩ := H
           replace H : ((imageeditorref01_Div.f k2 (wrap64 (65535 * (wrap64 (a3 - t532)))) (wrap64 (a3 - a2))).bind fun t533 => (if t532 ≤ a2 then (if t532 ≥ a3 then (if x531002_2.length < 17592186044416 then (imageeditorref24_Soft.l0 k2 a2 a3 (l0_2.length : Int) (wrap64 (x47_2 + 1)) a0_0 a0_1 l0_2 a1_0 a1_1 a1_2 a1_3 a0_0 a0_1 (x531002_2 ++ [0])) else (none)) else (if x531002_2.length < 17592186044416 then (imageeditorref24_Soft.l0 k2 a2 a3 (l0_2.length : Int) (wrap64 (x47_2 + 1)) a0_0 a0_1 l0_2 a1_0 a1_1 a1_2 a1_3 a0_0 a0_1 (x531002_2 ++ [65535])) else (none))) else (if t532 ≥ a3 then (if x531002_2.length < 17592186044416 then (imageeditorref24_Soft.l0 k2 a2 a3 (l0_2.length : Int) (wrap64 (x47_2 + 1)) a0_0 a0_1 l0_2 a1_0 a1_1 a1_2 a1_3 a0_0 a0_1 (x531002_2 ++ [0])) else (none)) else (if x531002_2.length < 17592186044416 then (imageeditorref24_Soft.l0 k2 a2 a3 (l0_2.length : Int) (wrap64 (x47_2 + 1)) a0_0 a0_1 l0_2 a1_0 a1_1 a1_2 a1_3 a0_0 a0_1 (x531002_2 ++ [t533])) else (none))))) = some (r1, r2, r3, r4) := H
           have A44 := Aside0.mk A440
           clear A440
           replace H := Option.bind_eq_some_iff.mp H
           obtain ⟨t533, A450, H⟩ := H
           replace H : (if t532 ≤ a2 then (if t532 ≥ a3 then (if x531002_2.length < 17592186044416 then (imageeditorref24_Soft.l0 k2 a2 a3 (l0_2.length : Int) (wrap64 (x47_2 + 1)) a0_0 a0_1 l0_2 a1_0 a1_1 a1_2 a1_3 a0_0 a0_1 (x531002_2 ++ [0])) else (none)) else (if x531002_2.length < 17592186044416 then (imageeditorref24_Soft.l0 k2 a2 a3 (l0_2.length : Int) (wrap64 (x47_2 + 1)) a0_0 a0_1 l0_2 a1_0 a1_1 a1_2 a1_3 a0_0 a0_1 (x531002_2 ++ [65535])) else (none))) else (if t532 ≥ a3 then (if x531002_2.length < 17592186044416 then (imageeditorref24_Soft.l0 k2 a2 a3 (l0_2.length : Int) (wrap64 (x47_2 + 1)) a0_0 a0_1 l0_2 a1_0 a1_1 a1_2 a1_3 a0_0 a0_1 (x531002_2 ++ [0])) else (none)) else (if x531002_2.length < 17592186044416 then (imageeditorref24_Soft.l0 k2 a2 a3 (l0_2.length : Int) (wrap64 (x47_2 + 1)) a0_0 a0_1 l0_2 a1_0 a1_1 a1_2 a1_3 a0_0 a0_1 (x531002_2 ++ [t533])) else (none)))) = some (r1, r2, r3, r4) := H
           have A45 := Aside0.mk A450
           clear A450
           by_cases c46 : t532 ≤ a2
           ·rw [if_pos c46] at H
            have c46b0 : decide (t532 ≤ a2) = true := decide_eq_true c46
            clear c46
            by_cases c47 : t532 ≥ a3
            ·rw [if_pos c47] at H
             have c47b0 : decide (a3 ≤ t532) = true := decide_eq_true c47
             clear c47
             by_cases c48 : x531002_2.length < 17592186044416
             ·rw [if_pos c48] at H
              have LMc48 := Aside0.mk c48
              clear c48
              obtain ⟨y534, hy534⟩ : ∃ y_ : List Int, y_ = (x531002_2 ++ [0]) := ⟨_, rfl⟩
              replace H : (imageeditorref24_Soft.l0 k2 a2 a3 (l0_2.length : Int) (wrap64 (x47_2 + 1)) a0_0 a0_1 l0_2 a1_0 a1_1 a1_2 a1_3 a0_0 a0_1 y534) = some (r1, r2, r3, r4) := by first | (rw [hy534]; with_reducible exact H) | (have H2_ := (Option.bind_some _ _).symm.trans H; rw [hy534]; with_reducible exact H2_) | (have H2_ := (Option.bind_some _ _).symm.trans H; with_reducible exact H2_) | with_reducible exact H | (rw [hy534]; exact H) | exact H
              have Ny534 := Aside0.mk hy534
              clear hy534
              have H' := Aside0.mk H
              clear H
              try go_wp2
              replace HO_531002 := zrd HO_531002
              replace BK523 := zkd BK523
              replace BK524 := zkd BK524
              replace BK525 := zkd BK525
              replace BK530 := zkd BK530
              replace HB := zbd HB
              have p531 : 0 ≤ (x47_2 : Int) := of_decide_eq_true (by first | (with_reducible assumption) | assumption)
              have q531 : x47_2 < (l0_2.length : Int) := of_decide_eq_true (by first | (with_reducible assumption) | assumption)
              obtain ⟨ad531, e531, hx531_0, hx531_1, hx531_2, hx531_3⟩ := at_T37 HR0_2.out x47_2 p531 q531
              have hw531_3 := hx531_3
              have hw531_2 := hx531_2
              have hw531_1 := hx531_1
              have hw531_0 := hx531_0
              cases e531
              replace hx531_0 := (HB.out.cell (World.block_lt_of_cell? w _ hx531_0)).trans hx531_0
              replace hx531_1 := (HB.out.cell (World.block_lt_of_cell? w _ hx531_1)).trans hx531_1
              replace hx531_2 := (HB.out.cell (World.block_lt_of_cell? w _ hx531_2)).trans hx531_2
              replace hx531_3 := (HB.out.cell (World.block_lt_of_cell? w _ hx531_3)).trans hx531_3
              replace p531 := eq_true p531
              replace q531 := eq_true q531
              refine start_ (n := 8) (S := fun w' => w'.cell? ⟨gb523, 0, none⟩ = some (.int .i64 a0_0) ∧ w'.cell? ⟨gb523, 1, none⟩ = some (.int .i64 a0_1) ∧ w'.cell? ⟨gb523, 2, none⟩ = some (.slice (some ad531) l0_2.length c0_2) ∧ w'.cell? ⟨gb524, 0, none⟩ = some (.int .i64 a1_0) ∧ w'.cell? ⟨gb524, 1, none⟩ = some (.int .i64 a1_1) ∧ w'.cell? ⟨gb524, 2, none⟩ = some (.int .i64 a1_2) ∧ w'.cell? ⟨gb524, 3, none⟩ = some (.int .i64 a1_3) ∧ w'.cell? (ad531.add ((x47_2).toNat * 4)) = some (.int .i64 ((rd_T37 l0_2 x47_2).f0)) ∧ w'.cell? ⟨(ad531.add ((x47_2).toNat * 4)).block, (ad531.add ((x47_2).toNat * 4)).off + 1, none⟩ = some (.int .i64 ((rd_T37 l0_2 x47_2).f1)) ∧ w'.cell? ⟨(ad531.add ((x47_2).toNat * 4)).block, (ad531.add ((x47_2).toNat * 4)).off + 2, none⟩ = some (.int .i64 ((rd_T37 l0_2 x47_2).f2)) ∧ w'.cell? ⟨(ad531.add ((x47_2).toNat * 4)).block, (ad531.add ((x47_2).toNat * 4)).off + 3, none⟩ = some (.int .i64 ((rd_T37 l0_2 x47_2).f3))) (ds := []) (bs 8 0) (by kernel_rfl) rfl rfl ⟨(blk_cell BK523.out 0).trans rfl, (blk_cell BK523.out 1).trans rfl, (blk_cell BK523.out 2).trans rfl, (blk_cell BK524.out 0).trans rfl, (blk_cell BK524.out 1).trans rfl, (blk_cell BK524.out 2).trans rfl, (blk_cell BK524.out 3).trans rfl, ((HB.out.cell (World.block_lt_of_cell? w _ hw531_0)).trans hw531_0), ((HB.out.cell (World.block_lt_of_cell? w _ hw531_1)).trans hw531_1), ((HB.out.cell (World.block_lt_of_cell? w _ hw531_2)).trans hw531_2), ((HB.out.cell (World.block_lt_of_cell? w _ hw531_3)).trans hw531_3)⟩ (fun hHeld => ?_); refine with_tabW imageeditorref24_Soft.tab12 imageeditorref24_Soft.bits12 (fun HT_ HW_ => ?_)
              generalize wr.drew = w49 at HO_531002 BK523 BK524 BK525 BK530 HB hx531_0 hx531_1 hx531_2 hx531_3 hHeld ⊢
              refine pure_ (i := 0) (N := some 50) (v := ?_) (a' := ?_) (bs 8 1) rfl rfl (any_of HT_.out (by kernel_rfl)) (fun _ _ _ h => h) (Or.inl ⟨by rfl, ?_⟩) ?_ ?_
              rotate_left
              ·intro w'
               go_simp
               with_reducible rfl
              rotate_left
              ·simp only [Act.put, sA, sB, sC, i64_w, i32_w]
               rfl
              refine pure_ (i := 2) (N := some 52) (v := ?_) (a' := ?_) (bs 8 5) rfl rfl (any_of HT_.out (by kernel_rfl)) (fun _ _ _ h => h) (Or.inl ⟨by rfl, ?_⟩) ?_ ?_
              rotate_left
              ·intro w'
               go_simp
               with_reducible rfl
              rotate_left
              ·simp only [Act.put, sA, sB, sC, i64_w, i32_w]
               rfl
              refine take_ (i := 1) (N := some 51) (v := ?_) (a' := ?_) (bs 8 7) rfl rfl (take_ofW HT_.out HW_.out (by kernel_rfl)) (fun _ _ _ h => h) (Or.inl ⟨by rfl, ?_⟩) hHeld ?_ ?_
              rotate_left
              ·rintro w' ⟨s0, s1, s2, s3, s4, s5, s6, s7, s8, s9, s10⟩
               go_simp
               with_reducible rfl
              rotate_left
              ·simp only [Act.put, sA, sB, sC, i64_w, i32_w]
               rfl
              refine pure_ (i := 3) (N := some 53) (v := ?_) (a' := ?_) (bs 8 15) rfl rfl (any_of HT_.out (by kernel_rfl)) (fun _ _ _ h => h) (Or.inl ⟨by rfl, ?_⟩) ?_ ?_
              rotate_left
              ·intro w'
               go_simp
               with_reducible rfl
              rotate_left
              ·simp only [Act.put, sA, sB, sC, i64_w, i32_w]
               rfl
              refine take_ (i := 4) (N := some 54) (v := ?_) (a' := ?_) (bs 8 31) rfl rfl (take_ofW HT_.out HW_.out (by kernel_rfl)) (fun _ _ _ h => h) (Or.inl ⟨by rfl, ?_⟩) hHeld ?_ ?_
              rotate_left
              ·rintro w' ⟨s0, s1, s2, s3, s4, s5, s6, s7, s8, s9, s10⟩
               go_simp
               with_reducible rfl
              rotate_left
              ·simp only [Act.put, sA, sB, sC, i64_w, i32_w]
               rfl
              refine take_ (i := 5) (N := some 55) (v := ?_) (a' := ?_) (bs 8 63) rfl rfl (take_ofW HT_.out HW_.out (by kernel_rfl)) (fun _ _ _ h => h) (Or.inl ⟨by rfl, ?_⟩) hHeld ?_ ?_
              rotate_left
              ·rintro w' ⟨s0, s1, s2, s3, s4, s5, s6, s7, s8, s9, s10⟩
               go_simp
               with_reducible rfl
              rotate_left
              ·simp only [Act.put, sA, sB, sC, i64_w, i32_w]
               rfl
              refine one_ (i := 6) (N := some 56) (bs 8 127) rfl rfl (one_of HT_.out (by kernel_rfl)) (by decide) (fun K hK => ?_)
              refine goes_ Try.func26 (by kernel_rfl) rfl #[.agg #[.int .i64 ((rd_T37 l0_2 x47_2).f0), .int .i64 ((rd_T37 l0_2 x47_2).f1), .int .i64 ((rd_T37 l0_2 x47_2).f2), .int .i64 ((rd_T37 l0_2 x47_2).f3)], .agg #[.int .i64 a1_0, .int .i64 a1_1, .int .i64 a1_2, .int .i64 a1_3]] (by rfl) rfl rfl (by (try simp only [List.map_toArray, List.map_cons, List.map_nil]); first | done | rfl | (simp only [List.length_drop, List.length_take]; rfl)) ?_
              with_reducible refine (imageeditorref06_Dist.calls k2 ((rd_T37 l0_2 x47_2).f0) ((rd_T37 l0_2 x47_2).f1) ((rd_T37 l0_2 x47_2).f2) ((rd_T37 l0_2 x47_2).f3) a1_0 a1_1 a1_2 a1_3 t532 _ A44.out).mono ?_
              rintro e w50 ⟨rfl, hb⟩
              refine ⟨_, rfl, ?_⟩
              replace HO_531002 := zr HO_531002 hb
              replace BK523 := zk BK523 hb
              replace BK524 := zk BK524 hb
              replace BK525 := zk BK525 hb
              replace BK530 := zk BK530 hb
              replace HB := zb HB hb
              (try clear hb)
              (try clear hb2)
              (try clear hk)
              (try clear hi)
              refine hK.out _ _ ⟨(blk_cell BK523.out 0).trans rfl, (blk_cell BK523.out 1).trans rfl, (blk_cell BK523.out 2).trans rfl, (blk_cell BK524.out 0).trans rfl, (blk_cell BK524.out 1).trans rfl, (blk_cell BK524.out 2).trans rfl, (blk_cell BK524.out 3).trans rfl, ((HB.out.cell (World.block_lt_of_cell? w _ hw531_0)).trans hw531_0), ((HB.out.cell (World.block_lt_of_cell? w _ hw531_1)).trans hw531_1), ((HB.out.cell (World.block_lt_of_cell? w _ hw531_2)).trans hw531_2), ((HB.out.cell (World.block_lt_of_cell? w _ hw531_3)).trans hw531_3)⟩ (fun hHeld => ?_)
              clear hK K
              refine norm_ (a' := ?_) ?_ ?_
              rotate_left
              ·show Act.put _ (some 56) _ = _
               simp only [Act.put, sA, sB, sC, i64_w, i32_w]
               rfl
              refine pure_ (i := 7) (N := some 13) (v := ?_) (a' := ?_) (bs 8 255) rfl rfl (any_of HT_.out (by kernel_rfl)) (fun _ _ _ h => h) (Or.inl ⟨by rfl, ?_⟩) ?_ ?_
              rotate_left
              ·intro w'
               go_simp
               with_reducible rfl
              rotate_left
              ·simp only [Act.put, sA, sB, sC, i64_w, i32_w]
               rfl
              refine done_ (done_of HT_.out (by kernel_rfl)) ?_
              try go_wp2_with (first | ((with_reducible refine gate_callee (f := 37) rfl ?_); refine goesL_ (some 64) rfl rfl Try.func37 (by kernel_rfl) rfl #[.int .i64 (wrap64 (65535 * (wrap64 (a3 - t532)))), .int .i64 (wrap64 (a3 - a2))] rfl (by (try simp only [List.map_toArray, List.map_cons, List.map_nil]); first | done | rfl | (simp only [List.length_drop, List.length_take]; rfl)) ?_; (with_reducible refine (imageeditorref01_Div.calls k2 (wrap64 (65535 * (wrap64 (a3 - t532)))) (wrap64 (a3 - a2)) t533 _ A45.out).mono ?_); rintro e w' ⟨rfl, ⟨nd, rfl⟩⟩; refine ⟨_, rfl, ?_⟩; (try (rw [drewN_self w50]; generalize hq_ : World.drewN w50 _ = w50; have n0_ : Aside0 (Kd.R (Kd.int .i64) 3 w50 w.heap.size (fun _ => True) u531002 x531002_2) := ⟨by rw [← hq_]; exact (by exact zr0 HO_531002)⟩; have n1_ : Aside0 (w50.heap[gb523]? = some (.cells #[.int .i64 a0_0, .int .i64 a0_1, .slice (some ad531) l0_2.length c0_2] 24 (0, 0))) := ⟨by rw [← hq_]; exact (by exact zk0 BK523)⟩; have n2_ : Aside0 (w50.heap[gb524]? = some (.cells #[.int .i64 a1_0, .int .i64 a1_1, .int .i64 a1_2, .int .i64 a1_3] 37 (0, 0))) := ⟨by rw [← hq_]; exact (by exact zk0 BK524)⟩; have n3_ : Aside0 (w50.heap[gb525]? = some (.cells #[.int .i64 0, .int .i64 0, .slice none 0 0] 29 (0, 0))) := ⟨by rw [← hq_]; exact (by exact zk0 BK525)⟩; have n4_ : Aside0 (w50.heap[gb530]? = some (.cells #[.int .i64 a0_0, .int .i64 a0_1, u531002] 29 (0, 0))) := ⟨by rw [← hq_]; exact (by exact zk0 BK530)⟩; have n5_ : Aside0 (Below w.heap.size w w50) := ⟨by rw [← hq_]; exact (by exact zb0 HB)⟩; clear HO_531002 BK523 BK524 BK525 BK530 HB hq_; have HO_531002 := n0_; have BK523 := n1_; have BK524 := n2_; have BK525 := n3_; have BK530 := n4_; have HB := n5_; clear n0_ n1_ n2_ n3_ n4_ n5_)); have hnb51 := NB530_523.out; have hnc51 := NB523_530.out; have hnb52 := NB530_524.out; have hnc52 := NB524_530.out; have hnb53 := NB530_525.out; have hnc53 := NB525_530.out; obtain ⟨hcz54_0, hcz54_1, hcz54_2, hfz54_0, hfz54_1, hfz54_2⟩ := zq3 BK530) | ((with_reducible refine gate_builtin (b := .append) (xs := #[.tmp 72, .tmp 74]) rfl ?_); at_builtin; refine Kd.R_append (Kd.int .i64) (w0 := w) w.heap.size rfl (.tmp 72) (.tmp 74) 27 3 (.int .i64 0) 8 rfl Try.underlying27 info3 rfl (by decide) (by omega) u531002 x531002_2 0 [.int .i64 0] (fun _ => True) (fun _ => False) rfl rfl ?aP (fun _ hk => hk.elim) ?aF ?aO ?aB ?aS ?aL ?_; (case aP => exact rfl); (case aB => exact (by exact zb0 HB)); (case aF => exact (fun _ _ => trivial)); (case aO => exact (by exact zr0 HO_531002)); (case aS => exact (below_size (by exact zb0 HB))); (case aL => have := LMc48.out; omega); intro v535 w55 ho hb hg hat; rw [← Ny534.out] at ho; have n0_ := Aside0.mk (blk_grown (zk0 BK523) hg (Kd.R_ne HO_531002.out BK523.out (by decide))); have n1_ := Aside0.mk (blk_grown (zk0 BK524) hg (Kd.R_ne HO_531002.out BK524.out (by decide))); have n2_ := Aside0.mk (blk_grown (zk0 BK525) hg (Kd.R_ne HO_531002.out BK525.out (by decide))); have n3_ := Aside0.mk (blk_grown (zk0 BK530) hg (Kd.R_ne HO_531002.out BK530.out (by decide))); have n4_ := Aside0.mk (hb); have n5_ := Aside0.mk (ho); clear BK523; clear BK524; clear BK525; clear BK530; clear HB; clear HO_531002; have BK523 := n0_; have BK524 := n1_; have BK525 := n2_; have BK530 := n3_; have HB := n4_; have HO536 := n5_; clear n0_ n1_ n2_ n3_ n4_ n5_; clear ho hb hg hat; obtain ⟨Ao56, co56, eo56⟩ := Kd.R_slice HO536.out; subst eo56; obtain ⟨hcz57_0, hcz57_1, hcz57_2, hfz57_0, hfz57_1, hfz57_2⟩ := zq3 BK530))
              go_roundg k2
              case measure => have := HJ6.out; have := HK2.out; omega
              case rel => exact ⟨(wrap64 (x47_2 + 1)), (y534), (.slice Ao56 y534.length co56), (by first | rfl | (simp; done) | (simp [*]; done)), H', ⟨by have := HJ6.out; have := HK2.out; omega⟩, ⟨by exact zro HO536 BK530 (by decide)⟩, ⟨by exact zf BK523 NB523_530⟩, ⟨by exact zf BK524 NB524_530⟩, ⟨by exact zf BK525 NB525_530⟩, ⟨by exact zp BK530 rfl⟩, ⟨by exact zbo HB GE530⟩⟩
             ·rw [if_neg c48] at H
              exact absurd H (by simp)
            ·rw [if_neg c47] at H
             have c47b0 : decide (a3 ≤ t532) = false := decide_eq_false c47
             clear c47
             by_cases c58 : x531002_2.length < 17592186044416
             ·rw [if_pos c58] at H
              have LMc58 := Aside0.mk c58
              clear c58
              obtain ⟨y537, hy537⟩ : ∃ y_ : List Int, y_ = (x531002_2 ++ [65535]) := ⟨_, rfl⟩
              replace H : (imageeditorref24_Soft.l0 k2 a2 a3 (l0_2.length : Int) (wrap64 (x47_2 + 1)) a0_0 a0_1 l0_2 a1_0 a1_1 a1_2 a1_3 a0_0 a0_1 y537) = some (r1, r2, r3, r4) := by first | (rw [hy537]; with_reducible exact H) | (have H2_ := (Option.bind_some _ _).symm.trans H; rw [hy537]; with_reducible exact H2_) | (have H2_ := (Option.bind_some _ _).symm.trans H; with_reducible exact H2_) | with_reducible exact H | (rw [hy537]; exact H) | exact H
              have Ny537 := Aside0.mk hy537
              clear hy537
              have H' := Aside0.mk H
              clear H
              try go_wp2
              replace HO_531002 := zrd HO_531002
              replace BK523 := zkd BK523
              replace BK524 := zkd BK524
              replace BK525 := zkd BK525
              replace BK530 := zkd BK530
              replace HB := zbd HB
              have p531 : 0 ≤ (x47_2 : Int) := of_decide_eq_true (by first | (with_reducible assumption) | assumption)
              have q531 : x47_2 < (l0_2.length : Int) := of_decide_eq_true (by first | (with_reducible assumption) | assumption)
              obtain ⟨ad531, e531, hx531_0, hx531_1, hx531_2, hx531_3⟩ := at_T37 HR0_2.out x47_2 p531 q531
              have hw531_3 := hx531_3
              have hw531_2 := hx531_2
              have hw531_1 := hx531_1
              have hw531_0 := hx531_0
              cases e531
              replace hx531_0 := (HB.out.cell (World.block_lt_of_cell? w _ hx531_0)).trans hx531_0
              replace hx531_1 := (HB.out.cell (World.block_lt_of_cell? w _ hx531_1)).trans hx531_1
              replace hx531_2 := (HB.out.cell (World.block_lt_of_cell? w _ hx531_2)).trans hx531_2
              replace hx531_3 := (HB.out.cell (World.block_lt_of_cell? w _ hx531_3)).trans hx531_3
              replace p531 := eq_true p531
              replace q531 := eq_true q531
              refine start_ (n := 8) (S := fun w' => w'.cell? ⟨gb523, 0, none⟩ = some (.int .i64 a0_0) ∧ w'.cell? ⟨gb523, 1, none⟩ = some (.int .i64 a0_1) ∧ w'.cell? ⟨gb523, 2, none⟩ = some (.slice (some ad531) l0_2.length c0_2) ∧ w'.cell? ⟨gb524, 0, none⟩ = some (.int .i64 a1_0) ∧ w'.cell? ⟨gb524, 1, none⟩ = some (.int .i64 a1_1) ∧ w'.cell? ⟨gb524, 2, none⟩ = some (.int .i64 a1_2) ∧ w'.cell? ⟨gb524, 3, none⟩ = some (.int .i64 a1_3) ∧ w'.cell? (ad531.add ((x47_2).toNat * 4)) = some (.int .i64 ((rd_T37 l0_2 x47_2).f0)) ∧ w'.cell? ⟨(ad531.add ((x47_2).toNat * 4)).block, (ad531.add ((x47_2).toNat * 4)).off + 1, none⟩ = some (.int .i64 ((rd_T37 l0_2 x47_2).f1)) ∧ w'.cell? ⟨(ad531.add ((x47_2).toNat * 4)).block, (ad531.add ((x47_2).toNat * 4)).off + 2, none⟩ = some (.int .i64 ((rd_T37 l0_2 x47_2).f2)) ∧ w'.cell? ⟨(ad531.add ((x47_2).toNat * 4)).block, (ad531.add ((x47_2).toNat * 4)).off + 3, none⟩ = some (.int .i64 ((rd_T37 l0_2 x47_2).f3))) (ds := []) (bs 8 0) (by kernel_rfl) rfl rfl ⟨(blk_cell BK523.out 0).trans rfl, (blk_cell BK523.out 1).trans rfl, (blk_cell BK523.out 2).trans rfl, (blk_cell BK524.out 0).trans rfl, (blk_cell BK524.out 1).trans rfl, (blk_cell BK524.out 2).trans rfl, (blk_cell BK524.out 3).trans rfl, ((HB.out.cell (World.block_lt_of_cell? w _ hw531_0)).trans hw531_0), ((HB.out.cell (World.block_lt_of_cell? w _ hw531_1)).trans hw531_1), ((HB.out.cell (World.block_lt_of_cell? w _ hw531_2)).trans hw531_2), ((HB.out.cell (World.block_lt_of_cell? w _ hw531_3)).trans hw531_3)⟩ (fun hHeld => ?_); refine with_tabW imageeditorref24_Soft.tab12 imageeditorref24_Soft.bits12 (fun HT_ HW_ => ?_)
              generalize wr.drew = w59 at HO_531002 BK523 BK524 BK525 BK530 HB hx531_0 hx531_1 hx531_2 hx531_3 hHeld ⊢
              refine pure_ (i := 0) (N := some 50) (v := ?_) (a' := ?_) (bs 8 1) rfl rfl (any_of HT_.out (by kernel_rfl)) (fun _ _ _ h => h) (Or.inl ⟨by rfl, ?_⟩) ?_ ?_
              rotate_left
              ·intro w'
               go_simp
               with_reducible rfl
              rotate_left
              ·simp only [Act.put, sA, sB, sC, i64_w, i32_w]
               rfl
              refine pure_ (i := 2) (N := some 52) (v := ?_) (a' := ?_) (bs 8 5) rfl rfl (any_of HT_.out (by kernel_rfl)) (fun _ _ _ h => h) (Or.inl ⟨by rfl, ?_⟩) ?_ ?_
              rotate_left
              ·intro w'
               go_simp
               with_reducible rfl
              rotate_left
              ·simp only [Act.put, sA, sB, sC, i64_w, i32_w]
               rfl
              refine take_ (i := 1) (N := some 51) (v := ?_) (a' := ?_) (bs 8 7) rfl rfl (take_ofW HT_.out HW_.out (by kernel_rfl)) (fun _ _ _ h => h) (Or.inl ⟨by rfl, ?_⟩) hHeld ?_ ?_
              rotate_left
              ·rintro w' ⟨s0, s1, s2, s3, s4, s5, s6, s7, s8, s9, s10⟩
               go_simp
               with_reducible rfl
              rotate_left
              ·simp only [Act.put, sA, sB, sC, i64_w, i32_w]
               rfl
              refine pure_ (i := 3) (N := some 53) (v := ?_) (a' := ?_) (bs 8 15) rfl rfl (any_of HT_.out (by kernel_rfl)) (fun _ _ _ h => h) (Or.inl ⟨by rfl, ?_⟩) ?_ ?_
              rotate_left
              ·intro w'
               go_simp
               with_reducible rfl
              rotate_left
              ·simp only [Act.put, sA, sB, sC, i64_w, i32_w]
               rfl
              refine take_ (i := 4) (N := some 54) (v := ?_) (a' := ?_) (bs 8 31) rfl rfl (take_ofW HT_.out HW_.out (by kernel_rfl)) (fun _ _ _ h => h) (Or.inl ⟨by rfl, ?_⟩) hHeld ?_ ?_
              rotate_left
              ·rintro w' ⟨s0, s1, s2, s3, s4, s5, s6, s7, s8, s9, s10⟩
               go_simp
               with_reducible rfl
              rotate_left
              ·simp only [Act.put, sA, sB, sC, i64_w, i32_w]
               rfl
              refine take_ (i := 5) (N := some 55) (v := ?_) (a' := ?_) (bs 8 63) rfl rfl (take_ofW HT_.out HW_.out (by kernel_rfl)) (fun _ _ _ h => h) (Or.inl ⟨by rfl, ?_⟩) hHeld ?_ ?_
              rotate_left
              ·rintro w' ⟨s0, s1, s2, s3, s4, s5, s6, s7, s8, s9, s10⟩
               go_simp
               with_reducible rfl
              rotate_left
              ·simp only [Act.put, sA, sB, sC, i64_w, i32_w]
               rfl
              refine one_ (i := 6) (N := some 56) (bs 8 127) rfl rfl (one_of HT_.out (by kernel_rfl)) (by decide) (fun K hK => ?_)
              refine goes_ Try.func26 (by kernel_rfl) rfl #[.agg #[.int .i64 ((rd_T37 l0_2 x47_2).f0), .int .i64 ((rd_T37 l0_2 x47_2).f1), .int .i64 ((rd_T37 l0_2 x47_2).f2), .int .i64 ((rd_T37 l0_2 x47_2).f3)], .agg #[.int .i64 a1_0, .int .i64 a1_1, .int .i64 a1_2, .int .i64 a1_3]] (by rfl) rfl rfl (by (try simp only [List.map_toArray, List.map_cons, List.map_nil]); first | done | rfl | (simp only [List.length_drop, List.length_take]; rfl)) ?_
              with_reducible refine (imageeditorref06_Dist.calls k2 ((rd_T37 l0_2 x47_2).f0) ((rd_T37 l0_2 x47_2).f1) ((rd_T37 l0_2 x47_2).f2) ((rd_T37 l0_2 x47_2).f3) a1_0 a1_1 a1_2 a1_3 t532 _ A44.out).mono ?_
              rintro e w60 ⟨rfl, hb⟩
              refine ⟨_, rfl, ?_⟩
              replace HO_531002 := zr HO_531002 hb
              replace BK523 := zk BK523 hb
              replace BK524 := zk BK524 hb
              replace BK525 := zk BK525 hb
              replace BK530 := zk BK530 hb
              replace HB := zb HB hb
              (try clear hb)
              (try clear hb2)
              (try clear hk)
              (try clear hi)
              refine hK.out _ _ ⟨(blk_cell BK523.out 0).trans rfl, (blk_cell BK523.out 1).trans rfl, (blk_cell BK523.out 2).trans rfl, (blk_cell BK524.out 0).trans rfl, (blk_cell BK524.out 1).trans rfl, (blk_cell BK524.out 2).trans rfl, (blk_cell BK524.out 3).trans rfl, ((HB.out.cell (World.block_lt_of_cell? w _ hw531_0)).trans hw531_0), ((HB.out.cell (World.block_lt_of_cell? w _ hw531_1)).trans hw531_1), ((HB.out.cell (World.block_lt_of_cell? w _ hw531_2)).trans hw531_2), ((HB.out.cell (World.block_lt_of_cell? w _ hw531_3)).trans hw531_3)⟩ (fun hHeld => ?_)
              clear hK K
              refine norm_ (a' := ?_) ?_ ?_
              rotate_left
              ·show Act.put _ (some 56) _ = _
               simp only [Act.put, sA, sB, sC, i64_w, i32_w]
               rfl
              refine pure_ (i := 7) (N := some 13) (v := ?_) (a' := ?_) (bs 8 255) rfl rfl (any_of HT_.out (by kernel_rfl)) (fun _ _ _ h => h) (Or.inl ⟨by rfl, ?_⟩) ?_ ?_
              rotate_left
              ·intro w'
               go_simp
               with_reducible rfl
              rotate_left
              ·simp only [Act.put, sA, sB, sC, i64_w, i32_w]
               rfl
              refine done_ (done_of HT_.out (by kernel_rfl)) ?_
              try go_wp2_with (first | ((with_reducible refine gate_callee (f := 37) rfl ?_); refine goesL_ (some 64) rfl rfl Try.func37 (by kernel_rfl) rfl #[.int .i64 (wrap64 (65535 * (wrap64 (a3 - t532)))), .int .i64 (wrap64 (a3 - a2))] rfl (by (try simp only [List.map_toArray, List.map_cons, List.map_nil]); first | done | rfl | (simp only [List.length_drop, List.length_take]; rfl)) ?_; (with_reducible refine (imageeditorref01_Div.calls k2 (wrap64 (65535 * (wrap64 (a3 - t532)))) (wrap64 (a3 - a2)) t533 _ A45.out).mono ?_); rintro e w' ⟨rfl, ⟨nd, rfl⟩⟩; refine ⟨_, rfl, ?_⟩; (try (rw [drewN_self w60]; generalize hq_ : World.drewN w60 _ = w60; have n0_ : Aside0 (Kd.R (Kd.int .i64) 3 w60 w.heap.size (fun _ => True) u531002 x531002_2) := ⟨by rw [← hq_]; exact (by exact zr0 HO_531002)⟩; have n1_ : Aside0 (w60.heap[gb523]? = some (.cells #[.int .i64 a0_0, .int .i64 a0_1, .slice (some ad531) l0_2.length c0_2] 24 (0, 0))) := ⟨by rw [← hq_]; exact (by exact zk0 BK523)⟩; have n2_ : Aside0 (w60.heap[gb524]? = some (.cells #[.int .i64 a1_0, .int .i64 a1_1, .int .i64 a1_2, .int .i64 a1_3] 37 (0, 0))) := ⟨by rw [← hq_]; exact (by exact zk0 BK524)⟩; have n3_ : Aside0 (w60.heap[gb525]? = some (.cells #[.int .i64 0, .int .i64 0, .slice none 0 0] 29 (0, 0))) := ⟨by rw [← hq_]; exact (by exact zk0 BK525)⟩; have n4_ : Aside0 (w60.heap[gb530]? = some (.cells #[.int .i64 a0_0, .int .i64 a0_1, u531002] 29 (0, 0))) := ⟨by rw [← hq_]; exact (by exact zk0 BK530)⟩; have n5_ : Aside0 (Below w.heap.size w w60) := ⟨by rw [← hq_]; exact (by exact zb0 HB)⟩; clear HO_531002 BK523 BK524 BK525 BK530 HB hq_; have HO_531002 := n0_; have BK523 := n1_; have BK524 := n2_; have BK525 := n3_; have BK530 := n4_; have HB := n5_; clear n0_ n1_ n2_ n3_ n4_ n5_)); have hnb61 := NB530_523.out; have hnc61 := NB523_530.out; have hnb62 := NB530_524.out; have hnc62 := NB524_530.out; have hnb63 := NB530_525.out; have hnc63 := NB525_530.out; obtain ⟨hcz64_0, hcz64_1, hcz64_2, hfz64_0, hfz64_1, hfz64_2⟩ := zq3 BK530) | ((with_reducible refine gate_builtin (b := .append) (xs := #[.tmp 72, .tmp 74]) rfl ?_); at_builtin; refine Kd.R_append (Kd.int .i64) (w0 := w) w.heap.size rfl (.tmp 72) (.tmp 74) 27 3 (.int .i64 0) 8 rfl Try.underlying27 info3 rfl (by decide) (by omega) u531002 x531002_2 65535 [.int .i64 65535] (fun _ => True) (fun _ => False) rfl rfl ?aP (fun _ hk => hk.elim) ?aF ?aO ?aB ?aS ?aL ?_; (case aP => exact rfl); (case aB => exact (by exact zb0 HB)); (case aF => exact (fun _ _ => trivial)); (case aO => exact (by exact zr0 HO_531002)); (case aS => exact (below_size (by exact zb0 HB))); (case aL => have := LMc58.out; omega); intro v538 w65 ho hb hg hat; rw [← Ny537.out] at ho; have n0_ := Aside0.mk (blk_grown (zk0 BK523) hg (Kd.R_ne HO_531002.out BK523.out (by decide))); have n1_ := Aside0.mk (blk_grown (zk0 BK524) hg (Kd.R_ne HO_531002.out BK524.out (by decide))); have n2_ := Aside0.mk (blk_grown (zk0 BK525) hg (Kd.R_ne HO_531002.out BK525.out (by decide))); have n3_ := Aside0.mk (blk_grown (zk0 BK530) hg (Kd.R_ne HO_531002.out BK530.out (by decide))); have n4_ := Aside0.mk (hb); have n5_ := Aside0.mk (ho); clear BK523; clear BK524; clear BK525; clear BK530; clear HB; clear HO_531002; have BK523 := n0_; have BK524 := n1_; have BK525 := n2_; have BK530 := n3_; have HB := n4_; have HO539 := n5_; clear n0_ n1_ n2_ n3_ n4_ n5_; clear ho hb hg hat; obtain ⟨Ao66, co66, eo66⟩ := Kd.R_slice HO539.out; subst eo66; obtain ⟨hcz67_0, hcz67_1, hcz67_2, hfz67_0, hfz67_1, hfz67_2⟩ := zq3 BK530))
              go_roundg k2
              case measure => have := HJ6.out; have := HK2.out; omega
              case rel => exact ⟨(wrap64 (x47_2 + 1)), (y537), (.slice Ao66 y537.length co66), (by first | rfl | (simp; done) | (simp [*]; done)), H', ⟨by have := HJ6.out; have := HK2.out; omega⟩, ⟨by exact zro HO539 BK530 (by decide)⟩, ⟨by exact zf BK523 NB523_530⟩, ⟨by exact zf BK524 NB524_530⟩, ⟨by exact zf BK525 NB525_530⟩, ⟨by exact zp BK530 rfl⟩, ⟨by exact zbo HB GE530⟩⟩
             ·rw [if_neg c58] at H
              exact absurd H (by simp)
           ·rw [if_neg c46] at H
            have c46b0 : decide (t532 ≤ a2) = false := decide_eq_false c46
            clear c46
            by_cases c68 : t532 ≥ a3
            ·rw [if_pos c68] at H
             have c68b0 : decide (a3 ≤ t532) = true := decide_eq_true c68
             clear c68
             by_cases c69 : x531002_2.length < 17592186044416
             ·rw [if_pos c69] at H
              have LMc69 := Aside0.mk c69
              clear c69
              obtain ⟨y540, hy540⟩ : ∃ y_ : List Int, y_ = (x531002_2 ++ [0]) := ⟨_, rfl⟩
              replace H : (imageeditorref24_Soft.l0 k2 a2 a3 (l0_2.length : Int) (wrap64 (x47_2 + 1)) a0_0 a0_1 l0_2 a1_0 a1_1 a1_2 a1_3 a0_0 a0_1 y540) = some (r1, r2, r3, r4) := by first | (rw [hy540]; with_reducible exact H) | (have H2_ := (Option.bind_some _ _).symm.trans H; rw [hy540]; with_reducible exact H2_) | (have H2_ := (Option.bind_some _ _).symm.trans H; with_reducible exact H2_) | with_reducible exact H | (rw [hy540]; exact H) | exact H
              have Ny540 := Aside0.mk hy540
              clear hy540
              have H' := Aside0.mk H
              clear H
              try go_wp2
              replace HO_531002 := zrd HO_531002
              replace BK523 := zkd BK523
              replace BK524 := zkd BK524
              replace BK525 := zkd BK525
              replace BK530 := zkd BK530
              replace HB := zbd HB
              have p531 : 0 ≤ (x47_2 : Int) := of_decide_eq_true (by first | (with_reducible assumption) | assumption)
              have q531 : x47_2 < (l0_2.length : Int) := of_decide_eq_true (by first | (with_reducible assumption) | assumption)
              obtain ⟨ad531, e531, hx531_0, hx531_1, hx531_2, hx531_3⟩ := at_T37 HR0_2.out x47_2 p531 q531
              have hw531_3 := hx531_3
              have hw531_2 := hx531_2
              have hw531_1 := hx531_1
              have hw531_0 := hx531_0
              cases e531
              replace hx531_0 := (HB.out.cell (World.block_lt_of_cell? w _ hx531_0)).trans hx531_0
              replace hx531_1 := (HB.out.cell (World.block_lt_of_cell? w _ hx531_1)).trans hx531_1
              replace hx531_2 := (HB.out.cell (World.block_lt_of_cell? w _ hx531_2)).trans hx531_2
              replace hx531_3 := (HB.out.cell (World.block_lt_of_cell? w _ hx531_3)).trans hx531_3
              replace p531 := eq_true p531
              replace q531 := eq_true q531
              refine start_ (n := 8) (S := fun w' => w'.cell? ⟨gb523, 0, none⟩ = some (.int .i64 a0_0) ∧ w'.cell? ⟨gb523, 1, none⟩ = some (.int .i64 a0_1) ∧ w'.cell? ⟨gb523, 2, none⟩ = some (.slice (some ad531) l0_2.length c0_2) ∧ w'.cell? ⟨gb524, 0, none⟩ = some (.int .i64 a1_0) ∧ w'.cell? ⟨gb524, 1, none⟩ = some (.int .i64 a1_1) ∧ w'.cell? ⟨gb524, 2, none⟩ = some (.int .i64 a1_2) ∧ w'.cell? ⟨gb524, 3, none⟩ = some (.int .i64 a1_3) ∧ w'.cell? (ad531.add ((x47_2).toNat * 4)) = some (.int .i64 ((rd_T37 l0_2 x47_2).f0)) ∧ w'.cell? ⟨(ad531.add ((x47_2).toNat * 4)).block, (ad531.add ((x47_2).toNat * 4)).off + 1, none⟩ = some (.int .i64 ((rd_T37 l0_2 x47_2).f1)) ∧ w'.cell? ⟨(ad531.add ((x47_2).toNat * 4)).block, (ad531.add ((x47_2).toNat * 4)).off + 2, none⟩ = some (.int .i64 ((rd_T37 l0_2 x47_2).f2)) ∧ w'.cell? ⟨(ad531.add ((x47_2).toNat * 4)).block, (ad531.add ((x47_2).toNat * 4)).off + 3, none⟩ = some (.int .i64 ((rd_T37 l0_2 x47_2).f3))) (ds := []) (bs 8 0) (by kernel_rfl) rfl rfl ⟨(blk_cell BK523.out 0).trans rfl, (blk_cell BK523.out 1).trans rfl, (blk_cell BK523.out 2).trans rfl, (blk_cell BK524.out 0).trans rfl, (blk_cell BK524.out 1).trans rfl, (blk_cell BK524.out 2).trans rfl, (blk_cell BK524.out 3).trans rfl, ((HB.out.cell (World.block_lt_of_cell? w _ hw531_0)).trans hw531_0), ((HB.out.cell (World.block_lt_of_cell? w _ hw531_1)).trans hw531_1), ((HB.out.cell (World.block_lt_of_cell? w _ hw531_2)).trans hw531_2), ((HB.out.cell (World.block_lt_of_cell? w _ hw531_3)).trans hw531_3)⟩ (fun hHeld => ?_); refine with_tabW imageeditorref24_Soft.tab12 imageeditorref24_Soft.bits12 (fun HT_ HW_ => ?_)
              generalize wr.drew = w70 at HO_531002 BK523 BK524 BK525 BK530 HB hx531_0 hx531_1 hx531_2 hx531_3 hHeld ⊢
              refine pure_ (i := 0) (N := some 50) (v := ?_) (a' := ?_) (bs 8 1) rfl rfl (any_of HT_.out (by kernel_rfl)) (fun _ _ _ h => h) (Or.inl ⟨by rfl, ?_⟩) ?_ ?_
              rotate_left
              ·intro w'
               go_simp
               with_reducible rfl
              rotate_left
              ·simp only [Act.put, sA, sB, sC, i64_w, i32_w]
               rfl
              refine pure_ (i := 2) (N := some 52) (v := ?_) (a' := ?_) (bs 8 5) rfl rfl (any_of HT_.out (by kernel_rfl)) (fun _ _ _ h => h) (Or.inl ⟨by rfl, ?_⟩) ?_ ?_
              rotate_left
              ·intro w'
               go_simp
               with_reducible rfl
              rotate_left
              ·simp only [Act.put, sA, sB, sC, i64_w, i32_w]
               rfl
              refine take_ (i := 1) (N := some 51) (v := ?_) (a' := ?_) (bs 8 7) rfl rfl (take_ofW HT_.out HW_.out (by kernel_rfl)) (fun _ _ _ h => h) (Or.inl ⟨by rfl, ?_⟩) hHeld ?_ ?_
              rotate_left
              ·rintro w' ⟨s0, s1, s2, s3, s4, s5, s6, s7, s8, s9, s10⟩
               go_simp
               with_reducible rfl
              rotate_left
              ·simp only [Act.put, sA, sB, sC, i64_w, i32_w]
               rfl
              refine pure_ (i := 3) (N := some 53) (v := ?_) (a' := ?_) (bs 8 15) rfl rfl (any_of HT_.out (by kernel_rfl)) (fun _ _ _ h => h) (Or.inl ⟨by rfl, ?_⟩) ?_ ?_
              rotate_left
              ·intro w'
               go_simp
               with_reducible rfl
              rotate_left
              ·simp only [Act.put, sA, sB, sC, i64_w, i32_w]
               rfl
              refine take_ (i := 4) (N := some 54) (v := ?_) (a' := ?_) (bs 8 31) rfl rfl (take_ofW HT_.out HW_.out (by kernel_rfl)) (fun _ _ _ h => h) (Or.inl ⟨by rfl, ?_⟩) hHeld ?_ ?_
              rotate_left
              ·rintro w' ⟨s0, s1, s2, s3, s4, s5, s6, s7, s8, s9, s10⟩
               go_simp
               with_reducible rfl
              rotate_left
              ·simp only [Act.put, sA, sB, sC, i64_w, i32_w]
               rfl
              refine take_ (i := 5) (N := some 55) (v := ?_) (a' := ?_) (bs 8 63) rfl rfl (take_ofW HT_.out HW_.out (by kernel_rfl)) (fun _ _ _ h => h) (Or.inl ⟨by rfl, ?_⟩) hHeld ?_ ?_
              rotate_left
              ·rintro w' ⟨s0, s1, s2, s3, s4, s5, s6, s7, s8, s9, s10⟩
               go_simp
               with_reducible rfl
              rotate_left
              ·simp only [Act.put, sA, sB, sC, i64_w, i32_w]
               rfl
              refine one_ (i := 6) (N := some 56) (bs 8 127) rfl rfl (one_of HT_.out (by kernel_rfl)) (by decide) (fun K hK => ?_)
              refine goes_ Try.func26 (by kernel_rfl) rfl #[.agg #[.int .i64 ((rd_T37 l0_2 x47_2).f0), .int .i64 ((rd_T37 l0_2 x47_2).f1), .int .i64 ((rd_T37 l0_2 x47_2).f2), .int .i64 ((rd_T37 l0_2 x47_2).f3)], .agg #[.int .i64 a1_0, .int .i64 a1_1, .int .i64 a1_2, .int .i64 a1_3]] (by rfl) rfl rfl (by (try simp only [List.map_toArray, List.map_cons, List.map_nil]); first | done | rfl | (simp only [List.length_drop, List.length_take]; rfl)) ?_
              with_reducible refine (imageeditorref06_Dist.calls k2 ((rd_T37 l0_2 x47_2).f0) ((rd_T37 l0_2 x47_2).f1) ((rd_T37 l0_2 x47_2).f2) ((rd_T37 l0_2 x47_2).f3) a1_0 a1_1 a1_2 a1_3 t532 _ A44.out).mono ?_
              rintro e w71 ⟨rfl, hb⟩
              refine ⟨_, rfl, ?_⟩
              replace HO_531002 := zr HO_531002 hb
              replace BK523 := zk BK523 hb
              replace BK524 := zk BK524 hb
              replace BK525 := zk BK525 hb
              replace BK530 := zk BK530 hb
              replace HB := zb HB hb
              (try clear hb)
              (try clear hb2)
              (try clear hk)
              (try clear hi)
              refine hK.out _ _ ⟨(blk_cell BK523.out 0).trans rfl, (blk_cell BK523.out 1).trans rfl, (blk_cell BK523.out 2).trans rfl, (blk_cell BK524.out 0).trans rfl, (blk_cell BK524.out 1).trans rfl, (blk_cell BK524.out 2).trans rfl, (blk_cell BK524.out 3).trans rfl, ((HB.out.cell (World.block_lt_of_cell? w _ hw531_0)).trans hw531_0), ((HB.out.cell (World.block_lt_of_cell? w _ hw531_1)).trans hw531_1), ((HB.out.cell (World.block_lt_of_cell? w _ hw531_2)).trans hw531_2), ((HB.out.cell (World.block_lt_of_cell? w _ hw531_3)).trans hw531_3)⟩ (fun hHeld => ?_)
              clear hK K
              refine norm_ (a' := ?_) ?_ ?_
              rotate_left
              ·show Act.put _ (some 56) _ = _
               simp only [Act.put, sA, sB, sC, i64_w, i32_w]
               rfl
              refine pure_ (i := 7) (N := some 13) (v := ?_) (a' := ?_) (bs 8 255) rfl rfl (any_of HT_.out (by kernel_rfl)) (fun _ _ _ h => h) (Or.inl ⟨by rfl, ?_⟩) ?_ ?_
              rotate_left
              ·intro w'
               go_simp
               with_reducible rfl
              rotate_left
              ·simp only [Act.put, sA, sB, sC, i64_w, i32_w]
               rfl
              refine done_ (done_of HT_.out (by kernel_rfl)) ?_
              try go_wp2_with (first | ((with_reducible refine gate_callee (f := 37) rfl ?_); refine goesL_ (some 64) rfl rfl Try.func37 (by kernel_rfl) rfl #[.int .i64 (wrap64 (65535 * (wrap64 (a3 - t532)))), .int .i64 (wrap64 (a3 - a2))] rfl (by (try simp only [List.map_toArray, List.map_cons, List.map_nil]); first | done | rfl | (simp only [List.length_drop, List.length_take]; rfl)) ?_; (with_reducible refine (imageeditorref01_Div.calls k2 (wrap64 (65535 * (wrap64 (a3 - t532)))) (wrap64 (a3 - a2)) t533 _ A45.out).mono ?_); rintro e w' ⟨rfl, ⟨nd, rfl⟩⟩; refine ⟨_, rfl, ?_⟩; (try (rw [drewN_self w71]; generalize hq_ : World.drewN w71 _ = w71; have n0_ : Aside0 (Kd.R (Kd.int .i64) 3 w71 w.heap.size (fun _ => True) u531002 x531002_2) := ⟨by rw [← hq_]; exact (by exact zr0 HO_531002)⟩; have n1_ : Aside0 (w71.heap[gb523]? = some (.cells #[.int .i64 a0_0, .int .i64 a0_1, .slice (some ad531) l0_2.length c0_2] 24 (0, 0))) := ⟨by rw [← hq_]; exact (by exact zk0 BK523)⟩; have n2_ : Aside0 (w71.heap[gb524]? = some (.cells #[.int .i64 a1_0, .int .i64 a1_1, .int .i64 a1_2, .int .i64 a1_3] 37 (0, 0))) := ⟨by rw [← hq_]; exact (by exact zk0 BK524)⟩; have n3_ : Aside0 (w71.heap[gb525]? = some (.cells #[.int .i64 0, .int .i64 0, .slice none 0 0] 29 (0, 0))) := ⟨by rw [← hq_]; exact (by exact zk0 BK525)⟩; have n4_ : Aside0 (w71.heap[gb530]? = some (.cells #[.int .i64 a0_0, .int .i64 a0_1, u531002] 29 (0, 0))) := ⟨by rw [← hq_]; exact (by exact zk0 BK530)⟩; have n5_ : Aside0 (Below w.heap.size w w71) := ⟨by rw [← hq_]; exact (by exact zb0 HB)⟩; clear HO_531002 BK523 BK524 BK525 BK530 HB hq_; have HO_531002 := n0_; have BK523 := n1_; have BK524 := n2_; have BK525 := n3_; have BK530 := n4_; have HB := n5_; clear n0_ n1_ n2_ n3_ n4_ n5_)); have hnb72 := NB530_523.out; have hnc72 := NB523_530.out; have hnb73 := NB530_524.out; have hnc73 := NB524_530.out; have hnb74 := NB530_525.out; have hnc74 := NB525_530.out; obtain ⟨hcz75_0, hcz75_1, hcz75_2, hfz75_0, hfz75_1, hfz75_2⟩ := zq3 BK530) | ((with_reducible refine gate_builtin (b := .append) (xs := #[.tmp 72, .tmp 74]) rfl ?_); at_builtin; refine Kd.R_append (Kd.int .i64) (w0 := w) w.heap.size rfl (.tmp 72) (.tmp 74) 27 3 (.int .i64 0) 8 rfl Try.underlying27 info3 rfl (by decide) (by omega) u531002 x531002_2 0 [.int .i64 0] (fun _ => True) (fun _ => False) rfl rfl ?aP (fun _ hk => hk.elim) ?aF ?aO ?aB ?aS ?aL ?_; (case aP => exact rfl); (case aB => exact (by exact zb0 HB)); (case aF => exact (fun _ _ => trivial)); (case aO => exact (by exact zr0 HO_531002)); (case aS => exact (below_size (by exact zb0 HB))); (case aL => have := LMc69.out; omega); intro v541 w76 ho hb hg hat; rw [← Ny540.out] at ho; have n0_ := Aside0.mk (blk_grown (zk0 BK523) hg (Kd.R_ne HO_531002.out BK523.out (by decide))); have n1_ := Aside0.mk (blk_grown (zk0 BK524) hg (Kd.R_ne HO_531002.out BK524.out (by decide))); have n2_ := Aside0.mk (blk_grown (zk0 BK525) hg (Kd.R_ne HO_531002.out BK525.out (by decide))); have n3_ := Aside0.mk (blk_grown (zk0 BK530) hg (Kd.R_ne HO_531002.out BK530.out (by decide))); have n4_ := Aside0.mk (hb); have n5_ := Aside0.mk (ho); clear BK523; clear BK524; clear BK525; clear BK530; clear HB; clear HO_531002; have BK523 := n0_; have BK524 := n1_; have BK525 := n2_; have BK530 := n3_; have HB := n4_; have HO542 := n5_; clear n0_ n1_ n2_ n3_ n4_ n5_; clear ho hb hg hat; obtain ⟨Ao77, co77, eo77⟩ := Kd.R_slice HO542.out; subst eo77; obtain ⟨hcz78_0, hcz78_1, hcz78_2, hfz78_0, hfz78_1, hfz78_2⟩ := zq3 BK530))
              go_roundg k2
              case measure => have := HJ6.out; have := HK2.out; omega
              case rel => exact ⟨(wrap64 (x47_2 + 1)), (y540), (.slice Ao77 y540.length co77), (by first | rfl | (simp; done) | (simp [*]; done)), H', ⟨by have := HJ6.out; have := HK2.out; omega⟩, ⟨by exact zro HO542 BK530 (by decide)⟩, ⟨by exact zf BK523 NB523_530⟩, ⟨by exact zf BK524 NB524_530⟩, ⟨by exact zf BK525 NB525_530⟩, ⟨by exact zp BK530 rfl⟩, ⟨by exact zbo HB GE530⟩⟩
             ·rw [if_neg c69] at H
              exact absurd H (by simp)
            ·rw [if_neg c68] at H
             have c68b0 : decide (a3 ≤ t532) = false := decide_eq_false c68
             clear c68
             by_cases c79 : x531002_2.length < 17592186044416
             ·rw [if_pos c79] at H
              have LMc79 := Aside0.mk c79
              clear c79
              obtain ⟨y543, hy543⟩ : ∃ y_ : List Int, y_ = (x531002_2 ++ [t533]) := ⟨_, rfl⟩
              replace H : (imageeditorref24_Soft.l0 k2 a2 a3 (l0_2.length : Int) (wrap64 (x47_2 + 1)) a0_0 a0_1 l0_2 a1_0 a1_1 a1_2 a1_3 a0_0 a0_1 y543) = some (r1, r2, r3, r4) := by first | (rw [hy543]; with_reducible exact H) | (have H2_ := (Option.bind_some _ _).symm.trans H; rw [hy543]; with_reducible exact H2_) | (have H2_ := (Option.bind_some _ _).symm.trans H; with_reducible exact H2_) | with_reducible exact H | (rw [hy543]; exact H) | exact H
              have Ny543 := Aside0.mk hy543
              clear hy543
              have H' := Aside0.mk H
              clear H
              try go_wp2
              replace HO_531002 := zrd HO_531002
              replace BK523 := zkd BK523
              replace BK524 := zkd BK524
              replace BK525 := zkd BK525
              replace BK530 := zkd BK530
              replace HB := zbd HB
              have p531 : 0 ≤ (x47_2 : Int) := of_decide_eq_true (by first | (with_reducible assumption) | assumption)
              have q531 : x47_2 < (l0_2.length : Int) := of_decide_eq_true (by first | (with_reducible assumption) | assumption)
              obtain ⟨ad531, e531, hx531_0, hx531_1, hx531_2, hx531_3⟩ := at_T37 HR0_2.out x47_2 p531 q531
              have hw531_3 := hx531_3
              have hw531_2 := hx531_2
              have hw531_1 := hx531_1
              have hw531_0 := hx531_0
              cases e531
              replace hx531_0 := (HB.out.cell (World.block_lt_of_cell? w _ hx531_0)).trans hx531_0
              replace hx531_1 := (HB.out.cell (World.block_lt_of_cell? w _ hx531_1)).trans hx531_1
              replace hx531_2 := (HB.out.cell (World.block_lt_of_cell? w _ hx531_2)).trans hx531_2
              replace hx531_3 := (HB.out.cell (World.block_lt_of_cell? w _ hx531_3)).trans hx531_3
              replace p531 := eq_true p531
              replace q531 := eq_true q531
              refine start_ (n := 8) (S := fun w' => w'.cell? ⟨gb523, 0, none⟩ = some (.int .i64 a0_0) ∧ w'.cell? ⟨gb523, 1, none⟩ = some (.int .i64 a0_1) ∧ w'.cell? ⟨gb523, 2, none⟩ = some (.slice (some ad531) l0_2.length c0_2) ∧ w'.cell? ⟨gb524, 0, none⟩ = some (.int .i64 a1_0) ∧ w'.cell? ⟨gb524, 1, none⟩ = some (.int .i64 a1_1) ∧ w'.cell? ⟨gb524, 2, none⟩ = some (.int .i64 a1_2) ∧ w'.cell? ⟨gb524, 3, none⟩ = some (.int .i64 a1_3) ∧ w'.cell? (ad531.add ((x47_2).toNat * 4)) = some (.int .i64 ((rd_T37 l0_2 x47_2).f0)) ∧ w'.cell? ⟨(ad531.add ((x47_2).toNat * 4)).block, (ad531.add ((x47_2).toNat * 4)).off + 1, none⟩ = some (.int .i64 ((rd_T37 l0_2 x47_2).f1)) ∧ w'.cell? ⟨(ad531.add ((x47_2).toNat * 4)).block, (ad531.add ((x47_2).toNat * 4)).off + 2, none⟩ = some (.int .i64 ((rd_T37 l0_2 x47_2).f2)) ∧ w'.cell? ⟨(ad531.add ((x47_2).toNat * 4)).block, (ad531.add ((x47_2).toNat * 4)).off + 3, none⟩ = some (.int .i64 ((rd_T37 l0_2 x47_2).f3))) (ds := []) (bs 8 0) (by kernel_rfl) rfl rfl ⟨(blk_cell BK523.out 0).trans rfl, (blk_cell BK523.out 1).trans rfl, (blk_cell BK523.out 2).trans rfl, (blk_cell BK524.out 0).trans rfl, (blk_cell BK524.out 1).trans rfl, (blk_cell BK524.out 2).trans rfl, (blk_cell BK524.out 3).trans rfl, ((HB.out.cell (World.block_lt_of_cell? w _ hw531_0)).trans hw531_0), ((HB.out.cell (World.block_lt_of_cell? w _ hw531_1)).trans hw531_1), ((HB.out.cell (World.block_lt_of_cell? w _ hw531_2)).trans hw531_2), ((HB.out.cell (World.block_lt_of_cell? w _ hw531_3)).trans hw531_3)⟩ (fun hHeld => ?_); refine with_tabW imageeditorref24_Soft.tab12 imageeditorref24_Soft.bits12 (fun HT_ HW_ => ?_)
              generalize wr.drew = w80 at HO_531002 BK523 BK524 BK525 BK530 HB hx531_0 hx531_1 hx531_2 hx531_3 hHeld ⊢
              refine pure_ (i := 0) (N := some 50) (v := ?_) (a' := ?_) (bs 8 1) rfl rfl (any_of HT_.out (by kernel_rfl)) (fun _ _ _ h => h) (Or.inl ⟨by rfl, ?_⟩) ?_ ?_
              rotate_left
              ·intro w'
               go_simp
               with_reducible rfl
              rotate_left
              ·simp only [Act.put, sA, sB, sC, i64_w, i32_w]
               rfl
              refine pure_ (i := 2) (N := some 52) (v := ?_) (a' := ?_) (bs 8 5) rfl rfl (any_of HT_.out (by kernel_rfl)) (fun _ _ _ h => h) (Or.inl ⟨by rfl, ?_⟩) ?_ ?_
              rotate_left
              ·intro w'
               go_simp
               with_reducible rfl
              rotate_left
              ·simp only [Act.put, sA, sB, sC, i64_w, i32_w]
               rfl
              refine take_ (i := 1) (N := some 51) (v := ?_) (a' := ?_) (bs 8 7) rfl rfl (take_ofW HT_.out HW_.out (by kernel_rfl)) (fun _ _ _ h => h) (Or.inl ⟨by rfl, ?_⟩) hHeld ?_ ?_
              rotate_left
              ·rintro w' ⟨s0, s1, s2, s3, s4, s5, s6, s7, s8, s9, s10⟩
               go_simp
               with_reducible rfl
              rotate_left
              ·simp only [Act.put, sA, sB, sC, i64_w, i32_w]
               rfl
              refine pure_ (i := 3) (N := some 53) (v := ?_) (a' := ?_) (bs 8 15) rfl rfl (any_of HT_.out (by kernel_rfl)) (fun _ _ _ h => h) (Or.inl ⟨by rfl, ?_⟩) ?_ ?_
              rotate_left
              ·intro w'
               go_simp
               with_reducible rfl
              rotate_left
              ·simp only [Act.put, sA, sB, sC, i64_w, i32_w]
               rfl
              refine take_ (i := 4) (N := some 54) (v := ?_) (a' := ?_) (bs 8 31) rfl rfl (take_ofW HT_.out HW_.out (by kernel_rfl)) (fun _ _ _ h => h) (Or.inl ⟨by rfl, ?_⟩) hHeld ?_ ?_
              rotate_left
              ·rintro w' ⟨s0, s1, s2, s3, s4, s5, s6, s7, s8, s9, s10⟩
               go_simp
               with_reducible rfl
              rotate_left
              ·simp only [Act.put, sA, sB, sC, i64_w, i32_w]
               rfl
              refine take_ (i := 5) (N := some 55) (v := ?_) (a' := ?_) (bs 8 63) rfl rfl (take_ofW HT_.out HW_.out (by kernel_rfl)) (fun _ _ _ h => h) (Or.inl ⟨by rfl, ?_⟩) hHeld ?_ ?_
              rotate_left
              ·rintro w' ⟨s0, s1, s2, s3, s4, s5, s6, s7, s8, s9, s10⟩
               go_simp
               with_reducible rfl
              rotate_left
              ·simp only [Act.put, sA, sB, sC, i64_w, i32_w]
               rfl
              refine one_ (i := 6) (N := some 56) (bs 8 127) rfl rfl (one_of HT_.out (by kernel_rfl)) (by decide) (fun K hK => ?_)
              refine goes_ Try.func26 (by kernel_rfl) rfl #[.agg #[.int .i64 ((rd_T37 l0_2 x47_2).f0), .int .i64 ((rd_T37 l0_2 x47_2).f1), .int .i64 ((rd_T37 l0_2 x47_2).f2), .int .i64 ((rd_T37 l0_2 x47_2).f3)], .agg #[.int .i64 a1_0, .int .i64 a1_1, .int .i64 a1_2, .int .i64 a1_3]] (by rfl) rfl rfl (by (try simp only [List.map_toArray, List.map_cons, List.map_nil]); first | done | rfl | (simp only [List.length_drop, List.length_take]; rfl)) ?_
              with_reducible refine (imageeditorref06_Dist.calls k2 ((rd_T37 l0_2 x47_2).f0) ((rd_T37 l0_2 x47_2).f1) ((rd_T37 l0_2 x47_2).f2) ((rd_T37 l0_2 x47_2).f3) a1_0 a1_1 a1_2 a1_3 t532 _ A44.out).mono ?_
              rintro e w81 ⟨rfl, hb⟩
              refine ⟨_, rfl, ?_⟩
              replace HO_531002 := zr HO_531002 hb
              replace BK523 := zk BK523 hb
              replace BK524 := zk BK524 hb
              replace BK525 := zk BK525 hb
              replace BK530 := zk BK530 hb
              replace HB := zb HB hb
              (try clear hb)
              (try clear hb2)
              (try clear hk)
              (try clear hi)
              refine hK.out _ _ ⟨(blk_cell BK523.out 0).trans rfl, (blk_cell BK523.out 1).trans rfl, (blk_cell BK523.out 2).trans rfl, (blk_cell BK524.out 0).trans rfl, (blk_cell BK524.out 1).trans rfl, (blk_cell BK524.out 2).trans rfl, (blk_cell BK524.out 3).trans rfl, ((HB.out.cell (World.block_lt_of_cell? w _ hw531_0)).trans hw531_0), ((HB.out.cell (World.block_lt_of_cell? w _ hw531_1)).trans hw531_1), ((HB.out.cell (World.block_lt_of_cell? w _ hw531_2)).trans hw531_2), ((HB.out.cell (World.block_lt_of_cell? w _ hw531_3)).trans hw531_3)⟩ (fun hHeld => ?_)
              clear hK K
              refine norm_ (a' := ?_) ?_ ?_
              rotate_left
              ·show Act.put _ (some 56) _ = _
               simp only [Act.put, sA, sB, sC, i64_w, i32_w]
               rfl
              refine pure_ (i := 7) (N := some 13) (v := ?_) (a' := ?_) (bs 8 255) rfl rfl (any_of HT_.out (by kernel_rfl)) (fun _ _ _ h => h) (Or.inl ⟨by rfl, ?_⟩) ?_ ?_
              rotate_left
              ·intro w'
               go_simp
               with_reducible rfl
              rotate_left
              ·simp only [Act.put, sA, sB, sC, i64_w, i32_w]
               rfl
              refine done_ (done_of HT_.out (by kernel_rfl)) ?_
              try go_wp2_with (first | ((with_reducible refine gate_callee (f := 37) rfl ?_); refine goesL_ (some 64) rfl rfl Try.func37 (by kernel_rfl) rfl #[.int .i64 (wrap64 (65535 * (wrap64 (a3 - t532)))), .int .i64 (wrap64 (a3 - a2))] rfl (by (try simp only [List.map_toArray, List.map_cons, List.map_nil]); first | done | rfl | (simp only [List.length_drop, List.length_take]; rfl)) ?_; (with_reducible refine (imageeditorref01_Div.calls k2 (wrap64 (65535 * (wrap64 (a3 - t532)))) (wrap64 (a3 - a2)) t533 _ A45.out).mono ?_); rintro e w' ⟨rfl, ⟨nd, rfl⟩⟩; refine ⟨_, rfl, ?_⟩; (try (rw [drewN_self w81]; generalize hq_ : World.drewN w81 _ = w81; have n0_ : Aside0 (Kd.R (Kd.int .i64) 3 w81 w.heap.size (fun _ => True) u531002 x531002_2) := ⟨by rw [← hq_]; exact (by exact zr0 HO_531002)⟩; have n1_ : Aside0 (w81.heap[gb523]? = some (.cells #[.int .i64 a0_0, .int .i64 a0_1, .slice (some ad531) l0_2.length c0_2] 24 (0, 0))) := ⟨by rw [← hq_]; exact (by exact zk0 BK523)⟩; have n2_ : Aside0 (w81.heap[gb524]? = some (.cells #[.int .i64 a1_0, .int .i64 a1_1, .int .i64 a1_2, .int .i64 a1_3] 37 (0, 0))) := ⟨by rw [← hq_]; exact (by exact zk0 BK524)⟩; have n3_ : Aside0 (w81.heap[gb525]? = some (.cells #[.int .i64 0, .int .i64 0, .slice none 0 0] 29 (0, 0))) := ⟨by rw [← hq_]; exact (by exact zk0 BK525)⟩; have n4_ : Aside0 (w81.heap[gb530]? = some (.cells #[.int .i64 a0_0, .int .i64 a0_1, u531002] 29 (0, 0))) := ⟨by rw [← hq_]; exact (by exact zk0 BK530)⟩; have n5_ : Aside0 (Below w.heap.size w w81) := ⟨by rw [← hq_]; exact (by exact zb0 HB)⟩; clear HO_531002 BK523 BK524 BK525 BK530 HB hq_; have HO_531002 := n0_; have BK523 := n1_; have BK524 := n2_; have BK525 := n3_; have BK530 := n4_; have HB := n5_; clear n0_ n1_ n2_ n3_ n4_ n5_)); have hnb82 := NB530_523.out; have hnc82 := NB523_530.out; have hnb83 := NB530_524.out; have hnc83 := NB524_530.out; have hnb84 := NB530_525.out; have hnc84 := NB525_530.out; obtain ⟨hcz85_0, hcz85_1, hcz85_2, hfz85_0, hfz85_1, hfz85_2⟩ := zq3 BK530) | ((with_reducible refine gate_builtin (b := .append) (xs := #[.tmp 72, .tmp 74]) rfl ?_); at_builtin; refine Kd.R_append (Kd.int .i64) (w0 := w) w.heap.size rfl (.tmp 72) (.tmp 74) 27 3 (.int .i64 0) 8 rfl Try.underlying27 info3 rfl (by decide) (by omega) u531002 x531002_2 t533 [.int .i64 t533] (fun _ => True) (fun _ => False) rfl rfl ?aP (fun _ hk => hk.elim) ?aF ?aO ?aB ?aS ?aL ?_; (case aP => exact rfl); (case aB => exact (by exact zb0 HB)); (case aF => exact (fun _ _ => trivial)); (case aO => exact (by exact zr0 HO_531002)); (case aS => exact (below_size (by exact zb0 HB))); (case aL => have := LMc79.out; omega); intro v544 w86 ho hb hg hat; rw [← Ny543.out] at ho; have n0_ := Aside0.mk (blk_grown (zk0 BK523) hg (Kd.R_ne HO_531002.out BK523.out (by decide))); have n1_ := Aside0.mk (blk_grown (zk0 BK524) hg (Kd.R_ne HO_531002.out BK524.out (by decide))); have n2_ := Aside0.mk (blk_grown (zk0 BK525) hg (Kd.R_ne HO_531002.out BK525.out (by decide))); have n3_ := Aside0.mk (blk_grown (zk0 BK530) hg (Kd.R_ne HO_531002.out BK530.out (by decide))); have n4_ := Aside0.mk (hb); have n5_ := Aside0.mk (ho); clear BK523; clear BK524; clear BK525; clear BK530; clear HB; clear HO_531002; have BK523 := n0_; have BK524 := n1_; have BK525 := n2_; have BK530 := n3_; have HB := n4_; have HO545 := n5_; clear n0_ n1_ n2_ n3_ n4_ n5_; clear ho hb hg hat; obtain ⟨Ao87, co87, eo87⟩ := Kd.R_slice HO545.out; subst eo87; obtain ⟨hcz88_0, hcz88_1, hcz88_2, hfz88_0, hfz88_1, hfz88_2⟩ := zq3 BK530))
              go_roundg k2
              case measure => have := HJ6.out; have := HK2.out; omega
              case rel => exact ⟨(wrap64 (x47_2 + 1)), (y543), (.slice Ao87 y543.length co87), (by first | rfl | (simp; done) | (simp [*]; done)), H', ⟨by have := HJ6.out; have := HK2.out; omega⟩, ⟨by exact zro HO545 BK530 (by decide)⟩, ⟨by exact zf BK523 NB523_530⟩, ⟨by exact zf BK524 NB524_530⟩, ⟨by exact zf BK525 NB525_530⟩, ⟨by exact zp BK530 rfl⟩, ⟨by exact zbo HB GE530⟩⟩
             ·rw [if_neg c79] at H
              exact absurd H (by simp)
          ·rw [if_neg c43] at H
           exact absurd H (by simp)
         ·rw [if_neg c42] at H
          exact absurd H (by simp)
        ·rw [if_neg c41] at H
         have c41b0 : decide (x47_2 < (l0_2.length : Int)) = false := decide_eq_false c41
         clear c41
         simp only [Option.some.injEq, Prod.mk.injEq] at H
         obtain ⟨rfl, rfl, rfl, rfl⟩ := H
         have hnb89 := NB530_523.out
         have hnc89 := NB523_530.out
         have hnb90 := NB530_524.out
         have hnc90 := NB524_530.out
         have hnb91 := NB530_525.out
         have hnc91 := NB525_530.out
         obtain ⟨hcz92_0, hcz92_1, hcz92_2, hfz92_0, hfz92_1, hfz92_2⟩ := zq3 BK530
         have hnb93 := NB525_523.out
         have hnc93 := NB523_525.out
         have hnb94 := NB525_524.out
         have hnc94 := NB524_525.out
         obtain ⟨hcz95_0, hcz95_1, hcz95_2, hfz95_0, hfz95_1, hfz95_2⟩ := zq3 BK525
         obtain ⟨Ao96, co96, eo96⟩ := Kd.R_slice HO_531002.out
         subst eo96
         go_wp2
         refine bodyPost_ret (results_ct rfl _ _ gb525 29 #[.int .i64 a0_0, .int .i64 a0_1, .slice Ao96 x531002_2.length co96] (0, 0) _ rfl (by exact zp BK525 rfl) Try.underlying29 rfl (by kernel_rfl)) rfl ?_
         exact ⟨_, by first | rfl | (simp [errW_none, errW_some] <;> rfl) | (simp [*, errW_none, errW_some] <;> rfl), by exact zro HO_531002 BK525 (by decide), by exact zbo HB GE525⟩
 ·rw [if_neg c6] at H
  have c6b0 : (t526 == 0) = false := beq_eq_false_iff_ne.mpr c6
  have c6b1 : (t526 != 0) = true := bne_iff_ne.mpr c6
  simp only [Option.some.injEq, Prod.mk.injEq] at H
  obtain ⟨rfl, rfl, rfl, rfl⟩ := H
  go_enter Try.func16, Try.ntmps16
  go_wp2_with (first | ((with_reducible refine gate_dst (N := 4) rfl ?_); refine box_event ?hg (N := 4) ?hd (cs := #[.int .i64 a0_0, .int .i64 a0_1, .slice A0_2 l0_2.length c0_2]) (t := 24) ?hr ?_; (case hd => rfl); (case hg => rfl); (case hr => first | (go_simp; done) | (go_simp; rfl)); intro gb523 hg w97 hbox hb; have GW523 := zg HB hg; have GE523 := zg HB hg; have n0_ := Aside0.mk (hbox); replace HB := zb HB hb; have BK523 := n0_; clear n0_; clear hb hbox hg) | ((with_reducible refine gate_dst (N := 5) rfl ?_); refine box_event ?hg (N := 5) ?hd (cs := #[.int .i64 a1_0, .int .i64 a1_1, .int .i64 a1_2, .int .i64 a1_3]) (t := 37) ?hr ?_; (case hd => rfl); (case hg => rfl); (case hr => first | (go_simp; done) | (go_simp; rfl)); intro gb524 hg w98 hbox hb; have GW524 := zg HB hg; have GE524 := zg HB hg; have NB523_524 := zn BK523 hg; have NB524_523 := zn' BK523 hg; have n0_ := Aside0.mk (hbox); replace BK523 := zk BK523 hb; replace HB := zb HB hb; have BK524 := n0_; clear n0_; clear hb hbox hg) | ((with_reducible refine gate_dst (N := 8) rfl ?_); refine box_event ?hg (N := 8) ?hd (cs := #[.int .i64 0, .int .i64 0, .slice none 0 0]) (t := 29) ?hr ?_; (case hd => rfl); (case hg => rfl); (case hr => first | (go_simp; done) | (go_simp; rfl)); intro gb525 hg w99 hbox hb; have GW525 := zg HB hg; have GE525 := zg HB hg; have NB523_525 := zn BK523 hg; have NB525_523 := zn' BK523 hg; have NB524_525 := zn BK524 hg; have NB525_524 := zn' BK524 hg; have n0_ := Aside0.mk (hbox); replace BK523 := zk BK523 hb; replace BK524 := zk BK524 hb; replace HB := zb HB hb; have BK525 := n0_; clear n0_; clear hb hbox hg; have hnb100 := NB523_524.out; have hnc100 := NB524_523.out; have hnb101 := NB523_525.out; have hnc101 := NB525_523.out; obtain ⟨hcz102_0, hcz102_1, hcz102_2, hfz102_0, hfz102_1, hfz102_2⟩ := zq3 BK523) | ((with_reducible refine gate_callee (f := 19) rfl ?_); refine goesL_ (some 16) rfl rfl Try.func19 (by kernel_rfl) rfl #[.agg #[.int .i64 a0_0, .int .i64 a0_1, .slice A0_2 l0_2.length c0_2]] rfl (by (try simp only [List.map_toArray, List.map_cons, List.map_nil]); first | done | rfl | (simp only [List.length_drop, List.length_take]; rfl)) ?_; (with_reducible refine (imageeditorref11_Check.calls k a0_0 a0_1 _ _ l0_2 t526 _ ?side1 ?side2 A5.out).mono ?_); (case side1 => repeat (first | exact (Kd.C_below HR0_2.out HB.out) | (with_reducible refine Kd.C_alloc ?_ _) | (with_reducible refine Kd.C_drewN ?_ _) | (with_reducible refine Kd.C_drew ?_))); (case side2 => exact HC0_2.out); rintro e w103 ⟨rfl, hb⟩; refine ⟨_, rfl, ?_⟩; replace BK523 := zk BK523 hb; replace BK524 := zk BK524 hb; replace BK525 := zk BK525 hb; replace HB := zb HB hb; (try clear hb); (try clear hb2); (try clear hk); (try clear hi); have hnb104 := NB525_524.out; have hnc104 := NB524_525.out; obtain ⟨hcz105_0, hcz105_1, hcz105_2, hfz105_0, hfz105_1, hfz105_2⟩ := zq3 BK525))
  refine bodyPost_ret (results_ct rfl _ _ gb525 29 #[.int .i64 0, .int .i64 0, .slice none 0 0] (0, 0) _ rfl (by exact zp BK525 rfl) Try.underlying29 rfl (by kernel_rfl)) rfl ?_
  exact ⟨_, by first | rfl | (simp [errW_none, errW_some] <;> rfl) | (simp [*, errW_none, errW_some] <;> rfl), by first | exact Kd.R_nil _ _ _ _ _ | exact Kd.N_nil _ _ _ _ _ | exact Kd.V_nil _ _ _ _ _ | exact Kd.Q_nil _ _ _ _ _ | exact Kd.S_nil _ _ _ _ _, by exact zbo HB GE525⟩

end Go.Proofs.Ytmmncannibnklaa.G
