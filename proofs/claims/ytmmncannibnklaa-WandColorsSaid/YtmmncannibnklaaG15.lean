-- Written by a program of this session (wip/gx.py over the kit's print); Lean checks it.
import Derived.Test.YtmmncannibnklaaG0
import Derived.Test.YtmmncannibnklaaG5
import Derived.Test.YtmmncannibnklaaG6
import Derived.Test.YtmmncannibnklaaG7
import Derived.Test.YtmmncannibnklaaG9
import Derived.Test.YtmmncannibnklaaG10
import Derived.Test.YtmmncannibnklaaG14
namespace Go.Proofs.Ytmmncannibnklaa.G
open Go.RowKit Go.Proofs.YtmmncannibnklaaW.PrintWords Go.Proofs.YtmmncannibnklaaW.PrintLast Go.Proofs.YtmmncannibnklaaW.PrintMore
attribute [local go_sem] max2_int min2_int max_two min_two max_three min_three max_four min_four   -- for this text's walks alone
set_option linter.unusedVariables false
set_option linter.unusedSimpArgs false

/-! ### imageeditorlaw24_WandFloods: function 3 -/
def imageeditorlaw24_WandFloods.f (k : Nat) (a0_0 : Int) (a0_1 : Int) (l0_2 : List (S37)) (a1_0 : Int) (a1_1 : Int) (a2 : Int) (a3 : Bool) : Option (Bool) := (wand_Flood.f k a0_0 a0_1 l0_2 a1_0 a1_1 a2 a3).bind fun bt489 => ((imageeditorref24_Flood.f k a0_0 a0_1 l0_2 a1_0 a1_1 a2 a3).bind fun bt496 => ((imageeditorlaw24_same.f k bt489.1 bt489.2.1 bt489.2.2.1 bt496.1 bt496.2.1 bt496.2.2.1).bind fun t503 => (if t503 = true then (if bt489.2.2.2 = bt496.2.2.2 then ((imageeditorlaw24_awake.f k).bind fun t504 => (some t504)) else (some false)) else (some false))))
theorem imageeditorlaw24_WandFloods.mono : ∀ a0 a1 a2 a3 a4 a5 a6 k, LeO (imageeditorlaw24_WandFloods.f k a0 a1 a2 a3 a4 a5 a6) (imageeditorlaw24_WandFloods.f (k + 1) a0 a1 a2 a3 a4 a5 a6) := by
 intro a0 a1 a2 a3 a4 a5 a6 k
 unfold imageeditorlaw24_WandFloods.f
 repeat' first
   | (with_reducible exact imageeditorlaw24_awake.mono _)
   | (with_reducible exact imageeditorlaw24_same.mono _ _ _ _ _ _ _)
   | (with_reducible exact imageeditorref24_Flood.mono _ _ _ _ _ _ _ _)
   | (with_reducible exact wand_Flood.mono _ _ _ _ _ _ _ _)
   | (with_reducible exact LeO.refl _)
   | (with_reducible exact LeO.none _)
   | (with_reducible refine LeO.ite ?_ ?_)
   | (with_reducible refine LeO.bind ?_ (fun _ => ?_))
   | exact imageeditorlaw24_awake.mono _
   | exact imageeditorlaw24_same.mono _ _ _ _ _ _ _
   | exact imageeditorref24_Flood.mono _ _ _ _ _ _ _ _
   | exact wand_Flood.mono _ _ _ _ _ _ _ _
   | exact LeO.none _
   | refine LeO.ite ?_ ?_
   | refine LeO.bind ?_ (fun _ => ?_)
set_option maxHeartbeats 8000000 in
set_option maxRecDepth 100000 in
theorem imageeditorlaw24_WandFloods.callsT (k : Nat) (a0_0 : Int) (a0_1 : Int) (A0_2 : Option Addr) (c0_2 : Nat) (l0_2 : List (S37)) (a1_0 : Int) (a1_1 : Int) (a2 : Int) (a3 : Bool) (r : Bool) (w : World) (hr0_2 : Kd.C k37 w A0_2 l0_2.length l0_2) (hc0_2 : l0_2.length ≤ c0_2) (hT : r = true) (h : imageeditorlaw24_WandFloods.f k a0_0 a0_1 l0_2 a1_0 a1_1 a2 a3 = some r) :
  Calls Try.prog 3 #[.agg #[.int .i64 a0_0, .int .i64 a0_1, .slice A0_2 l0_2.length c0_2], .agg #[.int .i64 a1_0, .int .i64 a1_1], .int .i64 a2, .bool a3] w fun e w' => e = .returned (.bool r) ∧ Below w.heap.size w w' := by
 have hu24 := Try.underlying24
 have hu26 := Try.underlying26
 have hu29 := Try.underlying29
 have HT := Aside0.mk hT
 clear hT
 have HR0_2 := Aside0.mk hr0_2
 have HC0_2 := Aside0.mk hc0_2
 clear hr0_2 hc0_2
 have HB := Aside0.mk (Below.refl w.heap.size w)
 have H : ((wand_Flood.f k a0_0 a0_1 l0_2 a1_0 a1_1 a2 a3).bind fun bt489 => ((imageeditorref24_Flood.f k a0_0 a0_1 l0_2 a1_0 a1_1 a2 a3).bind fun bt496 => ((imageeditorlaw24_same.f k bt489.1 bt489.2.1 bt489.2.2.1 bt496.1 bt496.2.1 bt496.2.2.1).bind fun t503 => (if t503 = true then (if bt489.2.2.2 = bt496.2.2.2 then ((imageeditorlaw24_awake.f k).bind fun t504 => (some t504)) else (some false)) else (some false))))) = some r := h
 clear h
 replace H := Option.bind_eq_some_iff.mp H
 obtain ⟨⟨t489, t490, t491, t494⟩, A50, H⟩ := H
 replace H : ((imageeditorref24_Flood.f k a0_0 a0_1 l0_2 a1_0 a1_1 a2 a3).bind fun bt496 => ((imageeditorlaw24_same.f k t489 t490 t491 bt496.1 bt496.2.1 bt496.2.2.1).bind fun t503 => (if t503 = true then (if t494 = bt496.2.2.2 then ((imageeditorlaw24_awake.f k).bind fun t504 => (some t504)) else (some false)) else (some false)))) = some r := H
 have A5 := Aside0.mk A50
 clear A50
 replace H := Option.bind_eq_some_iff.mp H
 obtain ⟨⟨t496, t497, t498, t501⟩, A60, H⟩ := H
 replace H : ((imageeditorlaw24_same.f k t489 t490 t491 t496 t497 t498).bind fun t503 => (if t503 = true then (if t494 = t501 then ((imageeditorlaw24_awake.f k).bind fun t504 => (some t504)) else (some false)) else (some false))) = some r := H
 have A6 := Aside0.mk A60
 clear A60
 replace H := Option.bind_eq_some_iff.mp H
 obtain ⟨t503, A70, H⟩ := H
 replace H : (if t503 = true then (if t494 = t501 then ((imageeditorlaw24_awake.f k).bind fun t504 => (some t504)) else (some false)) else (some false)) = some r := H
 have A7 := Aside0.mk A70
 clear A70
 by_cases c8 : t503 = true
 ·subst c8
  have H1 : (if t494 = t501 then ((imageeditorlaw24_awake.f k).bind fun t504 => (some t504)) else (some false)) = some r := by rw [if_pos rfl] at H; exact H
  clear H
  have H := H1
  clear H1
  by_cases c9 : t494 = t501
  ·rw [if_pos c9] at H
   have c9b0 : (t494 == t501) = true := beq_iff_eq.mpr c9
   have c9b1 : (t494 != t501) = false := bne_eq_false_iff_eq.mpr c9
   clear c9
   replace H := Option.bind_eq_some_iff.mp H
   obtain ⟨t504, A100, H⟩ := H
   replace H : (some t504) = some r := H
   have A10 := Aside0.mk A100
   clear A100
   as_aux_lemma =>
    obtain rfl := Option.some.inj H
    go_enter Try.func3, Try.ntmps3
    go_wp2_with (first | ((with_reducible refine gate_dst (N := 4) rfl ?_); refine box_event ?hg (N := 4) ?hd (cs := #[.int .i64 a0_0, .int .i64 a0_1, .slice A0_2 l0_2.length c0_2]) (t := 24) ?hr ?_; (case hd => rfl); (case hg => rfl); (case hr => first | (go_simp; done) | (go_simp; rfl)); intro gb487 hg w11 hbox hb; have GW487 := zg HB hg; have GE487 := zg HB hg; have n0_ := Aside0.mk (hbox); replace HB := zb HB hb; have BK487 := n0_; clear n0_; clear hb hbox hg) | ((with_reducible refine gate_dst (N := 5) rfl ?_); refine box_event ?hg (N := 5) ?hd (cs := #[.int .i64 a1_0, .int .i64 a1_1]) (t := 26) ?hr ?_; (case hd => rfl); (case hg => rfl); (case hr => first | (go_simp; done) | (go_simp; rfl)); intro gb488 hg w12 hbox hb; have GW488 := zg HB hg; have GE488 := zg HB hg; have NB487_488 := zn BK487 hg; have NB488_487 := zn' BK487 hg; have n0_ := Aside0.mk (hbox); replace BK487 := zk BK487 hb; replace HB := zb HB hb; have BK488 := n0_; clear n0_; clear hb hbox hg; have hnb13 := NB487_488.out; have hnc13 := NB488_487.out; obtain ⟨hcz14_0, hcz14_1, hcz14_2, hfz14_0, hfz14_1, hfz14_2⟩ := zq3 BK487; obtain ⟨hcz15_0, hcz15_1, hfz15_0, hfz15_1⟩ := zq2 BK488) | ((with_reducible refine gate_callee (f := 9) rfl ?_); refine goesL_ (some 18) rfl rfl Try.func9 (by kernel_rfl) rfl #[.agg #[.int .i64 a0_0, .int .i64 a0_1, .slice A0_2 l0_2.length c0_2], .agg #[.int .i64 a1_0, .int .i64 a1_1], .int .i64 a2, .bool a3] rfl (by (try simp only [List.map_toArray, List.map_cons, List.map_nil]); first | done | rfl | (simp only [List.length_drop, List.length_take]; rfl)) ?_; (with_reducible refine (wand_Flood.calls k a0_0 a0_1 _ _ l0_2 a1_0 a1_1 a2 a3 t489 t490 t491 t494 _ ?side1 ?side2 A5.out).mono ?_); (case side1 => repeat (first | exact (Kd.C_below HR0_2.out HB.out) | (with_reducible refine Kd.C_alloc ?_ _) | (with_reducible refine Kd.C_drewN ?_ _) | (with_reducible refine Kd.C_drew ?_))); (case side2 => exact HC0_2.out); rintro e w16 ⟨v492, rfl, ho0, hb⟩; refine ⟨_, rfl, ?_⟩; have HO493 := zl HB ho0; replace BK487 := zk BK487 hb; replace BK488 := zk BK488 hb; replace HB := zb HB hb; (try clear hb); (try clear hb2); (try clear hk); (try clear hi); (try clear ho0)) | ((with_reducible refine gate_dst (N := 9) rfl ?_); refine box_event ?hg (N := 9) ?hd (cs := #[.int .i64 0, .int .i64 0, .slice none 0 0]) (t := 29) ?hr ?_; (case hd => rfl); (case hg => rfl); (case hr => first | (go_simp; done) | (go_simp; rfl)); intro gb495 hg w17 hbox hb; have GW495 := zg HB hg; have GE495 := zg HB hg; have NB487_495 := zn BK487 hg; have NB495_487 := zn' BK487 hg; have NB488_495 := zn BK488 hg; have NB495_488 := zn' BK488 hg; have n0_ := Aside0.mk (hbox); replace HO493 := zr HO493 hb; replace BK487 := zk BK487 hb; replace BK488 := zk BK488 hb; replace HB := zb HB hb; have BK495 := n0_; clear n0_; clear hb hbox hg; have hnb18 := NB495_487.out; have hnc18 := NB487_495.out; have hnb19 := NB495_488.out; have hnc19 := NB488_495.out; obtain ⟨hcz20_0, hcz20_1, hcz20_2, hfz20_0, hfz20_1, hfz20_2⟩ := zq3 BK495; obtain ⟨Ao21, co21, eo21⟩ := Kd.R_slice HO493.out; subst eo21; obtain ⟨hcz22_0, hcz22_1, hcz22_2, hfz22_0, hfz22_1, hfz22_2⟩ := zq3 BK487; obtain ⟨hcz23_0, hcz23_1, hfz23_0, hfz23_1⟩ := zq2 BK488) | ((with_reducible refine gate_callee (f := 10) rfl ?_); refine goesL_ (some 26) rfl rfl Try.func10 (by kernel_rfl) rfl #[.agg #[.int .i64 a0_0, .int .i64 a0_1, .slice A0_2 l0_2.length c0_2], .agg #[.int .i64 a1_0, .int .i64 a1_1], .int .i64 a2, .bool a3] rfl (by (try simp only [List.map_toArray, List.map_cons, List.map_nil]); first | done | rfl | (simp only [List.length_drop, List.length_take]; rfl)) ?_; (with_reducible refine (imageeditorref24_Flood.calls k a0_0 a0_1 _ _ l0_2 a1_0 a1_1 a2 a3 t496 t497 t498 t501 _ ?side1 ?side2 A6.out).mono ?_); (case side1 => exact Kd.C_below HR0_2.out (by exact zbo HB GE495)); (case side2 => exact HC0_2.out); rintro e w24 ⟨v499, rfl, ho0, hb⟩; refine ⟨_, rfl, ?_⟩; have n0_ := Aside0.mk (Kd.R_below (by exact zro HO493 BK495 (by decide)) hb); have n1_ := Aside0.mk (Kd.R_lower ho0 (below_size (by exact zbo HB GE495))); have n2_ := Aside0.mk (blk_below (g := gb495) (o := .cells #[.int .i64 t489, .int .i64 t490, .slice Ao21 t491.length co21] 29 (0, 0)) (by exact zp BK495 rfl) hb); have n3_ := Aside0.mk (below_step (by exact zbo HB GE495) hb); replace BK487 := zfk BK487 NB487_495 hb; replace BK488 := zfk BK488 NB488_495 hb; clear HO493; clear BK495; clear HB; have HO493 := n0_; have HO500 := n1_; have BK495 := n2_; have HB := n3_; clear n0_ n1_ n2_ n3_; (try clear hb); (try clear hb2); (try clear hk); (try clear hi); (try clear ho0); (try clear BK487); (try clear BK488)) | ((with_reducible refine gate_dst (N := 11) rfl ?_); refine box_event ?hg (N := 11) ?hd (cs := #[.int .i64 0, .int .i64 0, .slice none 0 0]) (t := 29) ?hr ?_; (case hd => rfl); (case hg => rfl); (case hr => first | (go_simp; done) | (go_simp; rfl)); intro gb502 hg w25 hbox hb; have GW502 := zg HB hg; have GE502 := zg HB hg; have NB495_502 := zn BK495 hg; have NB502_495 := zn' BK495 hg; have n0_ := Aside0.mk (hbox); replace HO493 := zr HO493 hb; replace HO500 := zr HO500 hb; replace BK495 := zk BK495 hb; replace HB := zb HB hb; have BK502 := n0_; clear n0_; clear hb hbox hg; have hnb26 := NB502_495.out; have hnc26 := NB495_502.out; obtain ⟨hcz27_0, hcz27_1, hcz27_2, hfz27_0, hfz27_1, hfz27_2⟩ := zq3 BK502; obtain ⟨Ao28, co28, eo28⟩ := Kd.R_slice HO500.out; subst eo28; obtain ⟨hcz29_0, hcz29_1, hcz29_2, hfz29_0, hfz29_1, hfz29_2⟩ := zq3 BK495) | ((with_reducible refine gate_callee (f := 11) rfl ?_); refine goesL_ (some 31) rfl rfl Try.func11 (by kernel_rfl) rfl #[.agg #[.int .i64 t489, .int .i64 t490, .slice Ao21 t491.length co21], .agg #[.int .i64 t496, .int .i64 t497, .slice Ao28 t498.length co28]] rfl (by (try simp only [List.map_toArray, List.map_cons, List.map_nil]); first | done | rfl | (simp only [List.length_drop, List.length_take]; rfl)) ?_; (with_reducible refine (imageeditorlaw24_same.calls k t489 t490 _ _ t491 t496 t497 _ _ t498 true _ ?side1 ?side2 ?side3 ?side4 A7.out).mono ?_); (case side1 => refine (Kd.R_reads' (e := 3) (base := w.heap.size) (ok := fun k_ => True) (n := t491.length) (c := co21) ?_).2.2; exact (by exact zro HO493 BK502 (by decide))); (case side2 => exact (Kd.R_reads' HO493.out).2.1); (case side3 => refine (Kd.R_reads' (e := 3) (base := w.heap.size) (ok := fun k_ => True) (n := t498.length) (c := co28) ?_).2.2; exact (by exact zro HO500 BK502 (by decide))); (case side4 => exact (Kd.R_reads' HO500.out).2.1); rintro e w30 ⟨rfl, hb⟩; refine ⟨_, rfl, ?_⟩; have n0_ := Aside0.mk (Kd.R_below (by exact zro HO493 BK502 (by decide)) hb); have n1_ := Aside0.mk (Kd.R_below (by exact zro HO500 BK502 (by decide)) hb); have n2_ := Aside0.mk (blk_below (g := gb502) (o := .cells #[.int .i64 t496, .int .i64 t497, .slice Ao28 t498.length co28] 29 (0, 0)) (by exact zp BK502 rfl) hb); have n3_ := Aside0.mk (below_step (by exact zbo HB GE502) hb); replace BK495 := zfk BK495 NB495_502 hb; clear HO493; clear HO500; clear BK502; clear HB; have HO493 := n0_; have HO500 := n1_; have BK502 := n2_; have HB := n3_; clear n0_ n1_ n2_ n3_; (try clear hb); (try clear hb2); (try clear hk); (try clear hi); (try clear HO493); (try clear BK495); (try clear HO500); (try clear BK502)) | (go_at_call 12; (with_reducible refine (imageeditorlaw24_awake.calls k  t504 _ A10.out).mono ?_); rintro e w31 ⟨rfl, hb⟩; replace HB := zb HB hb; (try clear hb); (try clear hb2); (try clear hk); (try clear hi)))
    go_ret
    exact ⟨by first | rfl | (simp [errW_none, errW_some] <;> rfl) | (simp [*, errW_none, errW_some] <;> rfl), by exact zb0 HB⟩
  ·rw [if_neg c9] at H
   have c9b0 : (t494 == t501) = false := beq_eq_false_iff_ne.mpr c9
   have c9b1 : (t494 != t501) = true := bne_iff_ne.mpr c9
   as_aux_lemma =>
    exact absurd HT.out (by rw [← Option.some.inj H]; decide)
 ·replace c8 := Bool.eq_false_iff.mpr c8
  subst c8
  have H1 : (some false) = some r := by rw [if_neg (show ¬ (false = true) by decide)] at H; exact H
  clear H
  have H := H1
  clear H1
  as_aux_lemma =>
   exact absurd HT.out (by rw [← Option.some.inj H]; decide)

/-! ### imageeditorref24_Similar: function 14 -/
mutual
def imageeditorref24_Similar.j0 : Nat → Int → Bool → Int → Int → List (S37) → Int → Int → Int → Int → Option (Int × Int × List Int × Int)
 | 0, _, _, _, _, _, _, _, _, _ => none
 | k + 1, x2, x25, x506000, x506001, x506002, x507000, x507001, x507002, x507003 => if x25 = true then (some (0, 0, ([] : List Int), 2)) else (imageeditorref24_Similar.l0 k x2 (x506002.length : Int) 0 x506000 x506001 x506002 x507000 x507001 x507002 x507003 x506000 x506001 ([] : List Int))
def imageeditorref24_Similar.l0 : Nat → Int → Int → Int → Int → Int → List (S37) → Int → Int → Int → Int → Int → Int → List Int → Option (Int × Int × List Int × Int)
 | 0, _, _, _, _, _, _, _, _, _, _, _, _, _ => none
 | k + 1, x2, x34, x35, x506000, x506001, x506002, x507000, x507001, x507002, x507003, x512000, x512001, x512002 => if x35 < x34 then (if 0 ≤ x35 then (if x35 < (x506002.length : Int) then ((imageeditorref06_Dist.f k ((rd_T37 x506002 x35).f0) ((rd_T37 x506002 x35).f1) ((rd_T37 x506002 x35).f2) ((rd_T37 x506002 x35).f3) x507000 x507001 x507002 x507003).bind fun t513 => (if t513 ≤ x2 then (if x512002.length < 17592186044416 then (imageeditorref24_Similar.l0 k x2 x34 (wrap64 (x35 + 1)) x506000 x506001 x506002 x507000 x507001 x507002 x507003 x512000 x512001 (x512002 ++ [65535])) else (none)) else (if x512002.length < 17592186044416 then (imageeditorref24_Similar.l0 k x2 x34 (wrap64 (x35 + 1)) x506000 x506001 x506002 x507000 x507001 x507002 x507003 x512000 x512001 (x512002 ++ [0])) else (none)))) else (none)) else (none)) else (some (x512000, x512001, x512002, 0))
end
def imageeditorref24_Similar.f (k : Nat) (a0_0 : Int) (a0_1 : Int) (l0_2 : List (S37)) (a1_0 : Int) (a1_1 : Int) (a1_2 : Int) (a1_3 : Int) (a2 : Int) : Option (Int × Int × List Int × Int) := (imageeditorref11_Check.f k a0_0 a0_1 l0_2).bind fun t508 => (if t508 = 0 then ((imageeditorref06_Valid.f a1_0 a1_1 a1_2 a1_3).bind fun t509 => (if t509 = true then ((imageeditorref24_unit.f a2).bind fun t510 => (imageeditorref24_Similar.j0 k a2 (!t510) a0_0 a0_1 l0_2 a1_0 a1_1 a1_2 a1_3)) else (imageeditorref24_Similar.j0 k a2 true a0_0 a0_1 l0_2 a1_0 a1_1 a1_2 a1_3))) else (some (0, 0, ([] : List Int), t508)))
theorem imageeditorref24_Similar.mono_l : ∀ k, (∀ y0 y1 y2 y3 y4 y5 y6 y7 y8, LeO (imageeditorref24_Similar.j0 k y0 y1 y2 y3 y4 y5 y6 y7 y8) (imageeditorref24_Similar.j0 (k + 1) y0 y1 y2 y3 y4 y5 y6 y7 y8)) ∧ (∀ y0 y1 y2 y3 y4 y5 y6 y7 y8 y9 y10 y11 y12, LeO (imageeditorref24_Similar.l0 k y0 y1 y2 y3 y4 y5 y6 y7 y8 y9 y10 y11 y12) (imageeditorref24_Similar.l0 (k + 1) y0 y1 y2 y3 y4 y5 y6 y7 y8 y9 y10 y11 y12))
 | 0 => ⟨fun _ _ _ _ _ _ _ _ _ r h => by simp [imageeditorref24_Similar.j0] at h, fun _ _ _ _ _ _ _ _ _ _ _ _ _ r h => by simp [imageeditorref24_Similar.l0] at h⟩
 | k + 1 => by
  obtain ⟨ih0, ih1⟩ := imageeditorref24_Similar.mono_l k
  refine ⟨?_, ?_⟩
  ·intro y0 y1 y2 y3 y4 y5 y6 y7 y8
   unfold imageeditorref24_Similar.j0
   repeat' first
   | (with_reducible exact ih0 _ _ _ _ _ _ _ _ _)
   | (with_reducible exact ih1 _ _ _ _ _ _ _ _ _ _ _ _ _)
   | (with_reducible exact imageeditorref06_Dist.mono _ _ _ _ _ _ _ _ _)
   | (with_reducible exact imageeditorref11_Check.mono _ _ _ _)
   | (with_reducible exact LeO.refl _)
   | (with_reducible exact LeO.none _)
   | (with_reducible refine LeO.ite ?_ ?_)
   | (with_reducible refine LeO.bind ?_ (fun _ => ?_))
   | exact ih0 _ _ _ _ _ _ _ _ _
   | exact ih1 _ _ _ _ _ _ _ _ _ _ _ _ _
   | exact imageeditorref06_Dist.mono _ _ _ _ _ _ _ _ _
   | exact imageeditorref11_Check.mono _ _ _ _
   | exact LeO.none _
   | refine LeO.ite ?_ ?_
   | refine LeO.bind ?_ (fun _ => ?_)
  ·intro y0 y1 y2 y3 y4 y5 y6 y7 y8 y9 y10 y11 y12
   unfold imageeditorref24_Similar.l0
   repeat' first
   | (with_reducible exact ih0 _ _ _ _ _ _ _ _ _)
   | (with_reducible exact ih1 _ _ _ _ _ _ _ _ _ _ _ _ _)
   | (with_reducible exact imageeditorref06_Dist.mono _ _ _ _ _ _ _ _ _)
   | (with_reducible exact imageeditorref11_Check.mono _ _ _ _)
   | (with_reducible exact LeO.refl _)
   | (with_reducible exact LeO.none _)
   | (with_reducible refine LeO.ite ?_ ?_)
   | (with_reducible refine LeO.bind ?_ (fun _ => ?_))
   | exact ih0 _ _ _ _ _ _ _ _ _
   | exact ih1 _ _ _ _ _ _ _ _ _ _ _ _ _
   | exact imageeditorref06_Dist.mono _ _ _ _ _ _ _ _ _
   | exact imageeditorref11_Check.mono _ _ _ _
   | exact LeO.none _
   | refine LeO.ite ?_ ?_
   | refine LeO.bind ?_ (fun _ => ?_)
theorem imageeditorref24_Similar.mono : ∀ a0 a1 a2 a3 a4 a5 a6 a7 k, LeO (imageeditorref24_Similar.f k a0 a1 a2 a3 a4 a5 a6 a7) (imageeditorref24_Similar.f (k + 1) a0 a1 a2 a3 a4 a5 a6 a7) := by
 intro a0 a1 a2 a3 a4 a5 a6 a7 k
 obtain ⟨ih0, ih1⟩ := imageeditorref24_Similar.mono_l k
 unfold imageeditorref24_Similar.f
 repeat' first
   | (with_reducible exact ih0 _ _ _ _ _ _ _ _ _)
   | (with_reducible exact ih1 _ _ _ _ _ _ _ _ _ _ _ _ _)
   | (with_reducible exact imageeditorref06_Dist.mono _ _ _ _ _ _ _ _ _)
   | (with_reducible exact imageeditorref11_Check.mono _ _ _ _)
   | (with_reducible exact LeO.refl _)
   | (with_reducible exact LeO.none _)
   | (with_reducible refine LeO.ite ?_ ?_)
   | (with_reducible refine LeO.bind ?_ (fun _ => ?_))
   | exact ih0 _ _ _ _ _ _ _ _ _
   | exact ih1 _ _ _ _ _ _ _ _ _ _ _ _ _
   | exact imageeditorref06_Dist.mono _ _ _ _ _ _ _ _ _
   | exact imageeditorref11_Check.mono _ _ _ _
   | exact LeO.none _
   | refine LeO.ite ?_ ?_
   | refine LeO.bind ?_ (fun _ => ?_)
def imageeditorref24_Similar.T11 : Bool × List (List Nat × List Nat) := (true, [([], []), ([0], [0]), ([], []), ([1, 2], [1, 2]), ([3], [3]), ([], []), ([4, 5], [4, 5]), ([], []), ([6, 7], [6, 7])])
def imageeditorref24_Similar.B11 : List Nat := [0, 1, 0, 7, 15, 0, 63, 0, 255]
theorem imageeditorref24_Similar.tab11 : rtab .any (opsOf Try.f14 11) = imageeditorref24_Similar.T11 := by kernel_rfl
theorem imageeditorref24_Similar.bits11 : waitsOk imageeditorref24_Similar.T11.2 imageeditorref24_Similar.B11 = true := by kernel_rfl
set_option maxHeartbeats 8000000 in
set_option maxRecDepth 100000 in
theorem imageeditorref24_Similar.calls (k : Nat) (a0_0 : Int) (a0_1 : Int) (A0_2 : Option Addr) (c0_2 : Nat) (l0_2 : List (S37)) (a1_0 : Int) (a1_1 : Int) (a1_2 : Int) (a1_3 : Int) (a2 : Int) (r1 : Int) (r2 : Int) (r3 : List Int) (r4 : Int) (w : World) (hr0_2 : Kd.C k37 w A0_2 l0_2.length l0_2) (hc0_2 : l0_2.length ≤ c0_2) (h : imageeditorref24_Similar.f k a0_0 a0_1 l0_2 a1_0 a1_1 a1_2 a1_3 a2 = some (r1, r2, r3, r4)) :
  Calls Try.prog 14 #[.agg #[.int .i64 a0_0, .int .i64 a0_1, .slice A0_2 l0_2.length c0_2], .agg #[.int .i64 a1_0, .int .i64 a1_1, .int .i64 a1_2, .int .i64 a1_3], .int .i64 a2] w fun e w' => ∃ v2_ : Value, e = .returned (.tuple #[.agg #[.int .i64 r1, .int .i64 r2, v2_], .int .i64 r4]) ∧ Kd.R (Kd.int .i64) 3 w' w.heap.size (fun _ => True) v2_ r3 ∧ Below w.heap.size w w' := by
 have hu24 := Try.underlying24
 have hu37 := Try.underlying37
 have hu29 := Try.underlying29
 have HR0_2 := Aside0.mk hr0_2
 have HC0_2 := Aside0.mk hc0_2
 clear hr0_2 hc0_2
 have HB := Aside0.mk (Below.refl w.heap.size w)
 have H : ((imageeditorref11_Check.f k a0_0 a0_1 l0_2).bind fun t508 => (if t508 = 0 then ((imageeditorref06_Valid.f a1_0 a1_1 a1_2 a1_3).bind fun t509 => (if t509 = true then ((imageeditorref24_unit.f a2).bind fun t510 => (imageeditorref24_Similar.j0 k a2 (!t510) a0_0 a0_1 l0_2 a1_0 a1_1 a1_2 a1_3)) else (imageeditorref24_Similar.j0 k a2 true a0_0 a0_1 l0_2 a1_0 a1_1 a1_2 a1_3))) else (some (0, 0, ([] : List Int), t508)))) = some (r1, r2, r3, r4) := h
 clear h
 replace H := Option.bind_eq_some_iff.mp H
 obtain ⟨t508, A40, H⟩ := H
 replace H : (if t508 = 0 then ((imageeditorref06_Valid.f a1_0 a1_1 a1_2 a1_3).bind fun t509 => (if t509 = true then ((imageeditorref24_unit.f a2).bind fun t510 => (imageeditorref24_Similar.j0 k a2 (!t510) a0_0 a0_1 l0_2 a1_0 a1_1 a1_2 a1_3)) else (imageeditorref24_Similar.j0 k a2 true a0_0 a0_1 l0_2 a1_0 a1_1 a1_2 a1_3))) else (some (0, 0, ([] : List Int), t508))) = some (r1, r2, r3, r4) := H
 have A4 := Aside0.mk A40
 clear A40
 by_cases c5 : t508 = 0
 ·rw [if_pos c5] at H
  have c5b0 : (t508 == 0) = true := beq_iff_eq.mpr c5
  have c5b1 : (t508 != 0) = false := bne_eq_false_iff_eq.mpr c5
  clear c5
  have HC6 := Aside0.mk H
  clear H
  go_enter Try.func14, Try.ntmps14
  go_upto_region 4 with (first | ((with_reducible refine gate_dst (N := 3) rfl ?_); refine box_event ?hg (N := 3) ?hd (cs := #[.int .i64 a0_0, .int .i64 a0_1, .slice A0_2 l0_2.length c0_2]) (t := 24) ?hr ?_; (case hd => rfl); (case hg => rfl); (case hr => first | (go_simp; done) | (go_simp; rfl)); intro gb505 hg w7 hbox hb; have GW505 := zg HB hg; have GE505 := zg HB hg; have n0_ := Aside0.mk (hbox); replace HB := zb HB hb; have BK505 := n0_; clear n0_; clear hb hbox hg) | ((with_reducible refine gate_dst (N := 4) rfl ?_); refine box_event ?hg (N := 4) ?hd (cs := #[.int .i64 a1_0, .int .i64 a1_1, .int .i64 a1_2, .int .i64 a1_3]) (t := 37) ?hr ?_; (case hd => rfl); (case hg => rfl); (case hr => first | (go_simp; done) | (go_simp; rfl)); intro gb506 hg w8 hbox hb; have GW506 := zg HB hg; have GE506 := zg HB hg; have NB505_506 := zn BK505 hg; have NB506_505 := zn' BK505 hg; have n0_ := Aside0.mk (hbox); replace BK505 := zk BK505 hb; replace HB := zb HB hb; have BK506 := n0_; clear n0_; clear hb hbox hg) | ((with_reducible refine gate_dst (N := 6) rfl ?_); refine box_event ?hg (N := 6) ?hd (cs := #[.int .i64 0, .int .i64 0, .slice none 0 0]) (t := 29) ?hr ?_; (case hd => rfl); (case hg => rfl); (case hr => first | (go_simp; done) | (go_simp; rfl)); intro gb507 hg w9 hbox hb; have GW507 := zg HB hg; have GE507 := zg HB hg; have NB505_507 := zn BK505 hg; have NB507_505 := zn' BK505 hg; have NB506_507 := zn BK506 hg; have NB507_506 := zn' BK506 hg; have n0_ := Aside0.mk (hbox); replace BK505 := zk BK505 hb; replace BK506 := zk BK506 hb; replace HB := zb HB hb; have BK507 := n0_; clear n0_; clear hb hbox hg; obtain ⟨hcz10_0, hcz10_1, hcz10_2, hfz10_0, hfz10_1, hfz10_2⟩ := zq3 BK505) | ((with_reducible refine gate_callee (f := 19) rfl ?_); refine goesL_ (some 13) rfl rfl Try.func19 (by kernel_rfl) rfl #[.agg #[.int .i64 a0_0, .int .i64 a0_1, .slice A0_2 l0_2.length c0_2]] rfl (by (try simp only [List.map_toArray, List.map_cons, List.map_nil]); first | done | rfl | (simp only [List.length_drop, List.length_take]; rfl)) ?_; (with_reducible refine (imageeditorref11_Check.calls k a0_0 a0_1 _ _ l0_2 t508 _ ?side1 ?side2 A4.out).mono ?_); (case side1 => repeat (first | exact (Kd.C_below HR0_2.out HB.out) | (with_reducible refine Kd.C_alloc ?_ _) | (with_reducible refine Kd.C_drewN ?_ _) | (with_reducible refine Kd.C_drew ?_))); (case side2 => exact HC0_2.out); rintro e w11 ⟨rfl, hb⟩; refine ⟨_, rfl, ?_⟩; replace BK505 := zk BK505 hb; replace BK506 := zk BK506 hb; replace BK507 := zk BK507 hb; replace HB := zb HB hb; (try clear hb); (try clear hb2); (try clear hk); (try clear hi)))
  (try simp only [Act.put, sA, sB, sC])
  go_cut [25] (fun v25 wc => ∃ (kq : Nat) (x25_5 : Bool), v25 = .bool x25_5 ∧ Aside0 (imageeditorref24_Similar.j0 kq a2 x25_5 a0_0 a0_1 l0_2 a1_0 a1_1 a1_2 a1_3 = some (r1, r2, r3, r4)) ∧ Aside0 (kq ≤ k) ∧ Aside0 (wc.heap[gb505]? = some (.cells #[.int .i64 a0_0, .int .i64 a0_1, (.slice A0_2 l0_2.length c0_2)] 24 (0, 0))) ∧ Aside0 (wc.heap[gb506]? = some (.cells #[.int .i64 a1_0, .int .i64 a1_1, .int .i64 a1_2, .int .i64 a1_3] 37 (0, 0))) ∧ Aside0 (wc.heap[gb507]? = some (.cells #[.int .i64 0, .int .i64 0, (.slice none 0 0)] 29 (0, 0))) ∧ Aside0 (Below w.heap.size w wc))
  case first =>
   have H := HC6.out
   clear HC6
   replace H := Option.bind_eq_some_iff.mp H
   obtain ⟨t509, A120, H⟩ := H
   replace H : (if t509 = true then ((imageeditorref24_unit.f a2).bind fun t510 => (imageeditorref24_Similar.j0 k a2 (!t510) a0_0 a0_1 l0_2 a1_0 a1_1 a1_2 a1_3)) else (imageeditorref24_Similar.j0 k a2 true a0_0 a0_1 l0_2 a1_0 a1_1 a1_2 a1_3)) = some (r1, r2, r3, r4) := H
   have A12 := Aside0.mk A120
   clear A120
   by_cases c13 : t509 = true
   ·subst c13
    have H1 : ((imageeditorref24_unit.f a2).bind fun t510 => (imageeditorref24_Similar.j0 k a2 (!t510) a0_0 a0_1 l0_2 a1_0 a1_1 a1_2 a1_3)) = some (r1, r2, r3, r4) := by rw [if_pos rfl] at H; exact H
    clear H
    have H := H1
    clear H1
    replace H := Option.bind_eq_some_iff.mp H
    obtain ⟨t510, A140, H⟩ := H
    replace H : (imageeditorref24_Similar.j0 k a2 (!t510) a0_0 a0_1 l0_2 a1_0 a1_1 a1_2 a1_3) = some (r1, r2, r3, r4) := H
    have A14 := Aside0.mk A140
    clear A140
    have H' := Aside0.mk H
    clear H
    obtain ⟨hcz15_0, hcz15_1, hcz15_2, hcz15_3, hfz15_0, hfz15_1, hfz15_2, hfz15_3⟩ := zq4 BK506
    go_wp2_with (first | ((with_reducible refine gate_callee (f := 34) rfl ?_); refine goesL_ (some 19) rfl rfl Try.func34 (by kernel_rfl) rfl #[.agg #[.int .i64 a1_0, .int .i64 a1_1, .int .i64 a1_2, .int .i64 a1_3]] rfl (by (try simp only [List.map_toArray, List.map_cons, List.map_nil]); first | done | rfl | (simp only [List.length_drop, List.length_take]; rfl)) ?_; (with_reducible refine (imageeditorref06_Valid.calls a1_0 a1_1 a1_2 a1_3 true _ A12.out).mono ?_); rintro e w16 ⟨rfl, hb⟩; refine ⟨_, rfl, ?_⟩; replace BK505 := zk BK505 hb; replace BK506 := zk BK506 hb; replace BK507 := zk BK507 hb; replace HB := zb HB hb; (try clear hb); (try clear hb2); (try clear hk); (try clear hi)) | (go_at_call 25; (with_reducible refine (imageeditorref24_unit.calls a2 t510 _ A14.out).mono ?_); rintro e w' ⟨rfl, ⟨nd, rfl⟩⟩))
    go_meet
    case rel => exact ⟨_, (!t510), (by first | rfl | (simp; done) | (simp [*]; done)), H', ⟨by first | omega | exact Nat.le_refl _⟩, ⟨by exact zk0 BK505⟩, ⟨by exact zk0 BK506⟩, ⟨by exact zk0 BK507⟩, ⟨by exact zb0 HB⟩⟩
   ·replace c13 := Bool.eq_false_iff.mpr c13
    subst c13
    have H1 : (imageeditorref24_Similar.j0 k a2 true a0_0 a0_1 l0_2 a1_0 a1_1 a1_2 a1_3) = some (r1, r2, r3, r4) := by rw [if_neg (show ¬ (false = true) by decide)] at H; exact H
    clear H
    have H := H1
    clear H1
    have H' := Aside0.mk H
    clear H
    obtain ⟨hcz17_0, hcz17_1, hcz17_2, hcz17_3, hfz17_0, hfz17_1, hfz17_2, hfz17_3⟩ := zq4 BK506
    go_wp2_with (first | ((with_reducible refine gate_callee (f := 34) rfl ?_); refine goesL_ (some 19) rfl rfl Try.func34 (by kernel_rfl) rfl #[.agg #[.int .i64 a1_0, .int .i64 a1_1, .int .i64 a1_2, .int .i64 a1_3]] rfl (by (try simp only [List.map_toArray, List.map_cons, List.map_nil]); first | done | rfl | (simp only [List.length_drop, List.length_take]; rfl)) ?_; (with_reducible refine (imageeditorref06_Valid.calls a1_0 a1_1 a1_2 a1_3 false _ A12.out).mono ?_); rintro e w18 ⟨rfl, hb⟩; refine ⟨_, rfl, ?_⟩; replace BK505 := zk BK505 hb; replace BK506 := zk BK506 hb; replace BK507 := zk BK507 hb; replace HB := zb HB hb; (try clear hb); (try clear hb2); (try clear hk); (try clear hi)))
    go_meet
    case rel => exact ⟨_, (true), (by first | rfl | (simp; done) | (simp [*]; done)), H', ⟨by first | omega | exact Nat.le_refl _⟩, ⟨by exact zk0 BK505⟩, ⟨by exact zk0 BK506⟩, ⟨by exact zk0 BK507⟩, ⟨by exact zb0 HB⟩⟩
  case rest =>
   clear HC6
   try clear c1
   try clear p2
   try clear c3
   try clear q3
   try clear q4
   try clear c5
   try clear c5b0
   try clear c5b1
   try clear c13
   try clear c14
   try clear hcz10_0
   try clear hcz10_1
   try clear hcz10_2
   try clear hcz15_0
   try clear hcz15_1
   try clear hcz15_2
   try clear hcz15_3
   try clear hcz17_0
   try clear hcz17_1
   try clear hcz17_2
   try clear hcz17_3
   try clear hfz10_0
   try clear hfz10_1
   try clear hfz10_2
   try clear hfz15_0
   try clear hfz15_1
   try clear hfz15_2
   try clear hfz15_3
   try clear hfz17_0
   try clear hfz17_1
   try clear hfz17_2
   try clear hfz17_3
   obtain ⟨kq, x25_5, rfl, HA, HJ5, BK505, BK506, BK507, HB⟩ := hcut
   cases kq with
   | zero => exact absurd HA.out (by simp [imageeditorref24_Similar.j0])
   | succ kj5 =>
    have H := HA.out
    clear HA
    simp only [imageeditorref24_Similar.j0] at H
    by_cases c19 : x25_5 = true
    ·subst c19
     have H1 : (some (0, 0, ([] : List Int), 2)) = some (r1, r2, r3, r4) := by rw [if_pos rfl] at H; exact H
     clear H
     have H := H1
     clear H1
     simp only [Option.some.injEq, Prod.mk.injEq] at H
     obtain ⟨rfl, rfl, rfl, rfl⟩ := H
     have hnb20 := NB507_505.out
     have hnc20 := NB505_507.out
     have hnb21 := NB507_506.out
     have hnc21 := NB506_507.out
     obtain ⟨hcz22_0, hcz22_1, hcz22_2, hfz22_0, hfz22_1, hfz22_2⟩ := zq3 BK507
     go_wp2
     refine bodyPost_ret (results_ct rfl _ _ gb507 29 #[.int .i64 0, .int .i64 0, .slice none 0 0] (0, 0) _ rfl (by exact zp BK507 rfl) Try.underlying29 rfl (by kernel_rfl)) rfl ?_
     exact ⟨_, by first | rfl | (simp [errW_none, errW_some] <;> rfl) | (simp [*, errW_none, errW_some] <;> rfl), by first | exact Kd.R_nil _ _ _ _ _ | exact Kd.N_nil _ _ _ _ _ | exact Kd.V_nil _ _ _ _ _ | exact Kd.Q_nil _ _ _ _ _ | exact Kd.S_nil _ _ _ _ _, by exact zbo HB GE507⟩
    ·replace c19 := Bool.eq_false_iff.mpr c19
     subst c19
     have H1 : (imageeditorref24_Similar.l0 kj5 a2 (l0_2.length : Int) 0 a0_0 a0_1 l0_2 a1_0 a1_1 a1_2 a1_3 a0_0 a0_1 ([] : List Int)) = some (r1, r2, r3, r4) := by rw [if_neg (show ¬ (false = true) by decide)] at H; exact H
     clear H
     have H := H1
     clear H1
     have H' := Aside0.mk H
     clear H
     have hnb23 := NB505_506.out
     have hnc23 := NB506_505.out
     have hnb24 := NB505_507.out
     have hnc24 := NB507_505.out
     obtain ⟨hcz25_0, hcz25_1, hcz25_2, hfz25_0, hfz25_1, hfz25_2⟩ := zq3 BK505
     go_wp2_with (first | ((with_reducible refine gate_dst (N := 9) rfl ?_); refine box_event ?hg (N := 9) ?hd (cs := #[.int .i64 0, .int .i64 0, .slice none 0 0]) (t := 29) ?hr ?_; (case hd => rfl); (case hg => rfl); (case hr => first | (go_simp; done) | (go_simp; rfl)); intro gb511 hg w26 hbox hb; have GW511 := zg HB hg; have GE511 := zg HB hg; have NB505_511 := zn BK505 hg; have NB511_505 := zn' BK505 hg; have NB506_511 := zn BK506 hg; have NB511_506 := zn' BK506 hg; have NB507_511 := zn BK507 hg; have NB511_507 := zn' BK507 hg; have n0_ := Aside0.mk (hbox); replace BK505 := zk BK505 hb; replace BK506 := zk BK506 hb; replace BK507 := zk BK507 hb; replace HB := zb HB hb; have BK511 := n0_; clear n0_; clear hb hbox hg; have hnb27 := NB511_505.out; have hnc27 := NB505_511.out; have hnb28 := NB511_506.out; have hnc28 := NB506_511.out; have hnb29 := NB511_507.out; have hnc29 := NB507_511.out; obtain ⟨hcz30_0, hcz30_1, hcz30_2, hfz30_0, hfz30_1, hfz30_2⟩ := zq3 BK511; obtain ⟨hcz31_0, hcz31_1, hcz31_2, hfz31_0, hfz31_1, hfz31_2⟩ := zq3 BK505))
     (try simp only [Act.put, sA, sB, sC])
     go_loopg [35] kj5 (fun kq v35 w' => ∃ (x35_2 : Int) (x512002_2 : List Int) (u512002 : Value), v35 = .int .i64 x35_2 ∧ Aside0 (imageeditorref24_Similar.l0 kq a2 (l0_2.length : Int) x35_2 a0_0 a0_1 l0_2 a1_0 a1_1 a1_2 a1_3 a0_0 a0_1 x512002_2 = some (r1, r2, r3, r4)) ∧ Aside0 (kq ≤ kj5) ∧ Aside0 (Kd.R (Kd.int .i64) 3 w' w.heap.size (fun _ => True) u512002 x512002_2) ∧ Aside0 (w'.heap[gb505]? = some (.cells #[.int .i64 a0_0, .int .i64 a0_1, (.slice A0_2 l0_2.length c0_2)] 24 (0, 0))) ∧ Aside0 (w'.heap[gb506]? = some (.cells #[.int .i64 a1_0, .int .i64 a1_1, .int .i64 a1_2, .int .i64 a1_3] 37 (0, 0))) ∧ Aside0 (w'.heap[gb507]? = some (.cells #[.int .i64 0, .int .i64 0, (.slice none 0 0)] 29 (0, 0))) ∧ Aside0 (w'.heap[gb511]? = some (.cells #[.int .i64 a0_0, .int .i64 a0_1, u512002] 29 (0, 0))) ∧ Aside0 (Below w.heap.size w w'))
     case atStart => exact ⟨(0), (([] : List Int)), (.slice none 0 0), (by first | rfl | (simp; done) | (simp [*]; done)), H', ⟨Nat.le_refl _⟩, ⟨by first | exact Kd.R_nil _ _ _ _ _ | exact Kd.N_nil _ _ _ _ _ | exact Kd.V_nil _ _ _ _ _ | exact Kd.Q_nil _ _ _ _ _ | exact Kd.S_nil _ _ _ _ _⟩, ⟨by exact zf BK505 NB505_511⟩, ⟨by exact zf BK506 NB506_511⟩, ⟨by exact zf BK507 NB507_511⟩, ⟨by exact zp BK511 rfl⟩, ⟨by exact zbo HB GE511⟩⟩
     case round =>
      clear H'
      try clear c1
      try clear c2
      try clear p2
      try clear c3
      try clear q3
      try clear q4
      try clear c5
      try clear c5b0
      try clear c5b1
      try clear c13
      try clear c14
      try clear c19
      try clear c20
      try clear c21
      try clear c23
      try clear c24
      try clear c27
      try clear c28
      try clear c29
      try clear hcz10_0
      try clear hcz10_1
      try clear hcz10_2
      try clear hcz15_0
      try clear hcz15_1
      try clear hcz15_2
      try clear hcz15_3
      try clear hcz17_0
      try clear hcz17_1
      try clear hcz17_2
      try clear hcz17_3
      try clear hcz22_0
      try clear hcz22_1
      try clear hcz22_2
      try clear hcz25_0
      try clear hcz25_1
      try clear hcz25_2
      try clear hcz30_0
      try clear hcz30_1
      try clear hcz30_2
      try clear hcz31_0
      try clear hcz31_1
      try clear hcz31_2
      try clear hfz10_0
      try clear hfz10_1
      try clear hfz10_2
      try clear hfz15_0
      try clear hfz15_1
      try clear hfz15_2
      try clear hfz15_3
      try clear hfz17_0
      try clear hfz17_1
      try clear hfz17_2
      try clear hfz17_3
      try clear hfz22_0
      try clear hfz22_1
      try clear hfz22_2
      try clear hfz25_0
      try clear hfz25_1
      try clear hfz25_2
      try clear hfz30_0
      try clear hfz30_1
      try clear hfz30_2
      try clear hfz31_0
      try clear hfz31_1
      try clear hfz31_2
      try clear p2
      try clear q3
      try clear q4
      obtain ⟨x35_2, x512002_2, u512002, rfl, HA, HK2, HO_512002, BK505, BK506, BK507, BK511, HB⟩ := hrel
      cases gk with
      | zero => exact absurd HA.out (by simp [imageeditorref24_Similar.l0])
      | succ k2 =>
       have H := HA.out
       clear HA
       simp only [imageeditorref24_Similar.l0] at H
       by_cases c32 : x35_2 < (l0_2.length : Int)
       ·rw [if_pos c32] at H
        have c32b0 : decide (x35_2 < (l0_2.length : Int)) = true := decide_eq_true c32
        clear c32
        by_cases c33 : 0 ≤ x35_2
        ·rw [if_pos c33] at H
         have c33b0 : decide (0 ≤ x35_2) = true := decide_eq_true c33
         clear c33
         by_cases c34 : x35_2 < (l0_2.length : Int)
         ·rw [if_pos c34] at H
          have c34b0 : decide (x35_2 < (l0_2.length : Int)) = true := decide_eq_true c34
          clear c34
          replace H := Option.bind_eq_some_iff.mp H
          obtain ⟨t513, A350, H⟩ := H
          replace H : (if t513 ≤ a2 then (if x512002_2.length < 17592186044416 then (imageeditorref24_Similar.l0 k2 a2 (l0_2.length : Int) (wrap64 (x35_2 + 1)) a0_0 a0_1 l0_2 a1_0 a1_1 a1_2 a1_3 a0_0 a0_1 (x512002_2 ++ [65535])) else (none)) else (if x512002_2.length < 17592186044416 then (imageeditorref24_Similar.l0 k2 a2 (l0_2.length : Int) (wrap64 (x35_2 + 1)) a0_0 a0_1 l0_2 a1_0 a1_1 a1_2 a1_3 a0_0 a0_1 (x512002_2 ++ [0])) else (none))) = some (r1, r2, r3, r4) := H
          have A35 := Aside0.mk A350
          clear A350
          by_cases c36 : t513 ≤ a2
          ·rw [if_pos c36] at H
           have c36b0 : decide (t513 ≤ a2) = true := decide_eq_true c36
           clear c36
           by_cases c37 : x512002_2.length < 17592186044416
           ·rw [if_pos c37] at H
            have LMc37 := Aside0.mk c37
            clear c37
            obtain ⟨y514, hy514⟩ : ∃ y_ : List Int, y_ = (x512002_2 ++ [65535]) := ⟨_, rfl⟩
            replace H : (imageeditorref24_Similar.l0 k2 a2 (l0_2.length : Int) (wrap64 (x35_2 + 1)) a0_0 a0_1 l0_2 a1_0 a1_1 a1_2 a1_3 a0_0 a0_1 y514) = some (r1, r2, r3, r4) := by first | (rw [hy514]; with_reducible exact H) | (have H2_ := (Option.bind_some _ _).symm.trans H; rw [hy514]; with_reducible exact H2_) | (have H2_ := (Option.bind_some _ _).symm.trans H; with_reducible exact H2_) | with_reducible exact H | (rw [hy514]; exact H) | exact H
            have Ny514 := Aside0.mk hy514
            clear hy514
            have H' := Aside0.mk H
            clear H
            try go_wp2
            replace HO_512002 := zrd HO_512002
            replace BK505 := zkd BK505
            replace BK506 := zkd BK506
            replace BK507 := zkd BK507
            replace BK511 := zkd BK511
            replace HB := zbd HB
            have p512 : 0 ≤ (x35_2 : Int) := of_decide_eq_true (by first | (with_reducible assumption) | assumption)
            have q512 : x35_2 < (l0_2.length : Int) := of_decide_eq_true (by first | (with_reducible assumption) | assumption)
            obtain ⟨ad512, e512, hx512_0, hx512_1, hx512_2, hx512_3⟩ := at_T37 HR0_2.out x35_2 p512 q512
            have hw512_3 := hx512_3
            have hw512_2 := hx512_2
            have hw512_1 := hx512_1
            have hw512_0 := hx512_0
            cases e512
            replace hx512_0 := (HB.out.cell (World.block_lt_of_cell? w _ hx512_0)).trans hx512_0
            replace hx512_1 := (HB.out.cell (World.block_lt_of_cell? w _ hx512_1)).trans hx512_1
            replace hx512_2 := (HB.out.cell (World.block_lt_of_cell? w _ hx512_2)).trans hx512_2
            replace hx512_3 := (HB.out.cell (World.block_lt_of_cell? w _ hx512_3)).trans hx512_3
            replace p512 := eq_true p512
            replace q512 := eq_true q512
            refine start_ (n := 9) (S := fun w' => w'.cell? ⟨gb505, 0, none⟩ = some (.int .i64 a0_0) ∧ w'.cell? ⟨gb505, 1, none⟩ = some (.int .i64 a0_1) ∧ w'.cell? ⟨gb505, 2, none⟩ = some (.slice (some ad512) l0_2.length c0_2) ∧ w'.cell? ⟨gb506, 0, none⟩ = some (.int .i64 a1_0) ∧ w'.cell? ⟨gb506, 1, none⟩ = some (.int .i64 a1_1) ∧ w'.cell? ⟨gb506, 2, none⟩ = some (.int .i64 a1_2) ∧ w'.cell? ⟨gb506, 3, none⟩ = some (.int .i64 a1_3) ∧ w'.cell? (ad512.add ((x35_2).toNat * 4)) = some (.int .i64 ((rd_T37 l0_2 x35_2).f0)) ∧ w'.cell? ⟨(ad512.add ((x35_2).toNat * 4)).block, (ad512.add ((x35_2).toNat * 4)).off + 1, none⟩ = some (.int .i64 ((rd_T37 l0_2 x35_2).f1)) ∧ w'.cell? ⟨(ad512.add ((x35_2).toNat * 4)).block, (ad512.add ((x35_2).toNat * 4)).off + 2, none⟩ = some (.int .i64 ((rd_T37 l0_2 x35_2).f2)) ∧ w'.cell? ⟨(ad512.add ((x35_2).toNat * 4)).block, (ad512.add ((x35_2).toNat * 4)).off + 3, none⟩ = some (.int .i64 ((rd_T37 l0_2 x35_2).f3))) (ds := []) (bs 9 0) (by kernel_rfl) rfl rfl ⟨(blk_cell BK505.out 0).trans rfl, (blk_cell BK505.out 1).trans rfl, (blk_cell BK505.out 2).trans rfl, (blk_cell BK506.out 0).trans rfl, (blk_cell BK506.out 1).trans rfl, (blk_cell BK506.out 2).trans rfl, (blk_cell BK506.out 3).trans rfl, ((HB.out.cell (World.block_lt_of_cell? w _ hw512_0)).trans hw512_0), ((HB.out.cell (World.block_lt_of_cell? w _ hw512_1)).trans hw512_1), ((HB.out.cell (World.block_lt_of_cell? w _ hw512_2)).trans hw512_2), ((HB.out.cell (World.block_lt_of_cell? w _ hw512_3)).trans hw512_3)⟩ (fun hHeld => ?_); refine with_tabW imageeditorref24_Similar.tab11 imageeditorref24_Similar.bits11 (fun HT_ HW_ => ?_)
            generalize wr.drew = w38 at HO_512002 BK505 BK506 BK507 BK511 HB hx512_0 hx512_1 hx512_2 hx512_3 hHeld ⊢
            refine pure_ (i := 0) (N := some 38) (v := ?_) (a' := ?_) (bs 9 1) rfl rfl (any_of HT_.out (by kernel_rfl)) (fun _ _ _ h => h) (Or.inl ⟨by rfl, ?_⟩) ?_ ?_
            rotate_left
            ·intro w'
             go_simp
             with_reducible rfl
            rotate_left
            ·simp only [Act.put, sA, sB, sC, i64_w, i32_w]
             rfl
            refine pure_ (i := 2) (N := some 40) (v := ?_) (a' := ?_) (bs 9 5) rfl rfl (any_of HT_.out (by kernel_rfl)) (fun _ _ _ h => h) (Or.inl ⟨by rfl, ?_⟩) ?_ ?_
            rotate_left
            ·intro w'
             go_simp
             with_reducible rfl
            rotate_left
            ·simp only [Act.put, sA, sB, sC, i64_w, i32_w]
             rfl
            refine pure_ (i := 7) (N := some 45) (v := ?_) (a' := ?_) (bs 9 133) rfl rfl (any_of HT_.out (by kernel_rfl)) (fun _ _ _ h => h) (Or.inl ⟨by rfl, ?_⟩) ?_ ?_
            rotate_left
            ·intro w'
             go_simp
             with_reducible rfl
            rotate_left
            ·simp only [Act.put, sA, sB, sC, i64_w, i32_w]
             rfl
            refine take_ (i := 1) (N := some 39) (v := ?_) (a' := ?_) (bs 9 135) rfl rfl (take_ofW HT_.out HW_.out (by kernel_rfl)) (fun _ _ _ h => h) (Or.inl ⟨by rfl, ?_⟩) hHeld ?_ ?_
            rotate_left
            ·rintro w' ⟨s0, s1, s2, s3, s4, s5, s6, s7, s8, s9, s10⟩
             go_simp
             with_reducible rfl
            rotate_left
            ·simp only [Act.put, sA, sB, sC, i64_w, i32_w]
             rfl
            refine pure_ (i := 3) (N := some 41) (v := ?_) (a' := ?_) (bs 9 143) rfl rfl (any_of HT_.out (by kernel_rfl)) (fun _ _ _ h => h) (Or.inl ⟨by rfl, ?_⟩) ?_ ?_
            rotate_left
            ·intro w'
             go_simp
             with_reducible rfl
            rotate_left
            ·simp only [Act.put, sA, sB, sC, i64_w, i32_w]
             rfl
            refine take_ (i := 4) (N := some 42) (v := ?_) (a' := ?_) (bs 9 159) rfl rfl (take_ofW HT_.out HW_.out (by kernel_rfl)) (fun _ _ _ h => h) (Or.inl ⟨by rfl, ?_⟩) hHeld ?_ ?_
            rotate_left
            ·rintro w' ⟨s0, s1, s2, s3, s4, s5, s6, s7, s8, s9, s10⟩
             go_simp
             with_reducible rfl
            rotate_left
            ·simp only [Act.put, sA, sB, sC, i64_w, i32_w]
             rfl
            refine take_ (i := 5) (N := some 43) (v := ?_) (a' := ?_) (bs 9 191) rfl rfl (take_ofW HT_.out HW_.out (by kernel_rfl)) (fun _ _ _ h => h) (Or.inl ⟨by rfl, ?_⟩) hHeld ?_ ?_
            rotate_left
            ·rintro w' ⟨s0, s1, s2, s3, s4, s5, s6, s7, s8, s9, s10⟩
             go_simp
             with_reducible rfl
            rotate_left
            ·simp only [Act.put, sA, sB, sC, i64_w, i32_w]
             rfl
            refine one_ (i := 6) (N := some 44) (bs 9 255) rfl rfl (one_of HT_.out (by kernel_rfl)) (by decide) (fun K hK => ?_)
            refine goes_ Try.func26 (by kernel_rfl) rfl #[.agg #[.int .i64 ((rd_T37 l0_2 x35_2).f0), .int .i64 ((rd_T37 l0_2 x35_2).f1), .int .i64 ((rd_T37 l0_2 x35_2).f2), .int .i64 ((rd_T37 l0_2 x35_2).f3)], .agg #[.int .i64 a1_0, .int .i64 a1_1, .int .i64 a1_2, .int .i64 a1_3]] (by rfl) rfl rfl (by (try simp only [List.map_toArray, List.map_cons, List.map_nil]); first | done | rfl | (simp only [List.length_drop, List.length_take]; rfl)) ?_
            with_reducible refine (imageeditorref06_Dist.calls k2 ((rd_T37 l0_2 x35_2).f0) ((rd_T37 l0_2 x35_2).f1) ((rd_T37 l0_2 x35_2).f2) ((rd_T37 l0_2 x35_2).f3) a1_0 a1_1 a1_2 a1_3 t513 _ A35.out).mono ?_
            rintro e w39 ⟨rfl, hb⟩
            refine ⟨_, rfl, ?_⟩
            replace HO_512002 := zr HO_512002 hb
            replace BK505 := zk BK505 hb
            replace BK506 := zk BK506 hb
            replace BK507 := zk BK507 hb
            replace BK511 := zk BK511 hb
            replace HB := zb HB hb
            (try clear hb)
            (try clear hb2)
            (try clear hk)
            (try clear hi)
            refine hK.out _ _ ⟨(blk_cell BK505.out 0).trans rfl, (blk_cell BK505.out 1).trans rfl, (blk_cell BK505.out 2).trans rfl, (blk_cell BK506.out 0).trans rfl, (blk_cell BK506.out 1).trans rfl, (blk_cell BK506.out 2).trans rfl, (blk_cell BK506.out 3).trans rfl, ((HB.out.cell (World.block_lt_of_cell? w _ hw512_0)).trans hw512_0), ((HB.out.cell (World.block_lt_of_cell? w _ hw512_1)).trans hw512_1), ((HB.out.cell (World.block_lt_of_cell? w _ hw512_2)).trans hw512_2), ((HB.out.cell (World.block_lt_of_cell? w _ hw512_3)).trans hw512_3)⟩ (fun hHeld => ?_)
            clear hK K
            refine norm_ (a' := ?_) ?_ ?_
            rotate_left
            ·show Act.put _ (some 44) _ = _
             simp only [Act.put, sA, sB, sC, i64_w, i32_w]
             rfl
            refine pure_ (i := 8) (N := some 46) (v := ?_) (a' := ?_) (bs 9 511) rfl rfl (any_of HT_.out (by kernel_rfl)) (fun _ _ _ h => h) (Or.inl ⟨by rfl, ?_⟩) ?_ ?_
            rotate_left
            ·intro w'
             go_simp
             with_reducible rfl
            rotate_left
            ·simp only [Act.put, sA, sB, sC, i64_w, i32_w]
             rfl
            refine done_ (done_of HT_.out (by kernel_rfl)) ?_
            have hnb40 := NB511_505.out
            have hnc40 := NB505_511.out
            have hnb41 := NB511_506.out
            have hnc41 := NB506_511.out
            have hnb42 := NB511_507.out
            have hnc42 := NB507_511.out
            obtain ⟨hcz43_0, hcz43_1, hcz43_2, hfz43_0, hfz43_1, hfz43_2⟩ := zq3 BK511
            try go_wp2_with (first | ((with_reducible refine gate_builtin (b := .append) (xs := #[.tmp 48, .tmp 50]) rfl ?_); at_builtin; refine Kd.R_append (Kd.int .i64) (w0 := w) w.heap.size rfl (.tmp 48) (.tmp 50) 27 3 (.int .i64 0) 8 rfl Try.underlying27 info3 rfl (by decide) (by omega) u512002 x512002_2 65535 [.int .i64 65535] (fun _ => True) (fun _ => False) rfl rfl ?aP (fun _ hk => hk.elim) ?aF ?aO ?aB ?aS ?aL ?_; (case aP => exact rfl); (case aB => exact (by exact zb0 HB)); (case aF => exact (fun _ _ => trivial)); (case aO => exact (by exact zr0 HO_512002)); (case aS => exact (below_size (by exact zb0 HB))); (case aL => have := LMc37.out; omega); intro v515 w44 ho hb hg hat; rw [← Ny514.out] at ho; have n0_ := Aside0.mk (blk_grown (zk0 BK505) hg (Kd.R_ne HO_512002.out BK505.out (by decide))); have n1_ := Aside0.mk (blk_grown (zk0 BK506) hg (Kd.R_ne HO_512002.out BK506.out (by decide))); have n2_ := Aside0.mk (blk_grown (zk0 BK507) hg (Kd.R_ne HO_512002.out BK507.out (by decide))); have n3_ := Aside0.mk (blk_grown (zk0 BK511) hg (Kd.R_ne HO_512002.out BK511.out (by decide))); have n4_ := Aside0.mk (hb); have n5_ := Aside0.mk (ho); clear BK505; clear BK506; clear BK507; clear BK511; clear HB; clear HO_512002; have BK505 := n0_; have BK506 := n1_; have BK507 := n2_; have BK511 := n3_; have HB := n4_; have HO516 := n5_; clear n0_ n1_ n2_ n3_ n4_ n5_; clear ho hb hg hat; obtain ⟨Ao45, co45, eo45⟩ := Kd.R_slice HO516.out; subst eo45; obtain ⟨hcz46_0, hcz46_1, hcz46_2, hfz46_0, hfz46_1, hfz46_2⟩ := zq3 BK511))
            go_roundg k2
            case measure => have := HJ5.out; have := HK2.out; omega
            case rel => exact ⟨(wrap64 (x35_2 + 1)), (y514), (.slice Ao45 y514.length co45), (by first | rfl | (simp; done) | (simp [*]; done)), H', ⟨by have := HJ5.out; have := HK2.out; omega⟩, ⟨by exact zro HO516 BK511 (by decide)⟩, ⟨by exact zf BK505 NB505_511⟩, ⟨by exact zf BK506 NB506_511⟩, ⟨by exact zf BK507 NB507_511⟩, ⟨by exact zp BK511 rfl⟩, ⟨by exact zbo HB GE511⟩⟩
           ·rw [if_neg c37] at H
            exact absurd H (by simp)
          ·rw [if_neg c36] at H
           have c36b0 : decide (t513 ≤ a2) = false := decide_eq_false c36
           clear c36
           by_cases c47 : x512002_2.length < 17592186044416
           ·rw [if_pos c47] at H
            have LMc47 := Aside0.mk c47
            clear c47
            obtain ⟨y517, hy517⟩ : ∃ y_ : List Int, y_ = (x512002_2 ++ [0]) := ⟨_, rfl⟩
            replace H : (imageeditorref24_Similar.l0 k2 a2 (l0_2.length : Int) (wrap64 (x35_2 + 1)) a0_0 a0_1 l0_2 a1_0 a1_1 a1_2 a1_3 a0_0 a0_1 y517) = some (r1, r2, r3, r4) := by first | (rw [hy517]; with_reducible exact H) | (have H2_ := (Option.bind_some _ _).symm.trans H; rw [hy517]; with_reducible exact H2_) | (have H2_ := (Option.bind_some _ _).symm.trans H; with_reducible exact H2_) | with_reducible exact H | (rw [hy517]; exact H) | exact H
            have Ny517 := Aside0.mk hy517
            clear hy517
            have H' := Aside0.mk H
            clear H
            try go_wp2
            replace HO_512002 := zrd HO_512002
            replace BK505 := zkd BK505
            replace BK506 := zkd BK506
            replace BK507 := zkd BK507
            replace BK511 := zkd BK511
            replace HB := zbd HB
            have p512 : 0 ≤ (x35_2 : Int) := of_decide_eq_true (by first | (with_reducible assumption) | assumption)
            have q512 : x35_2 < (l0_2.length : Int) := of_decide_eq_true (by first | (with_reducible assumption) | assumption)
            obtain ⟨ad512, e512, hx512_0, hx512_1, hx512_2, hx512_3⟩ := at_T37 HR0_2.out x35_2 p512 q512
            have hw512_3 := hx512_3
            have hw512_2 := hx512_2
            have hw512_1 := hx512_1
            have hw512_0 := hx512_0
            cases e512
            replace hx512_0 := (HB.out.cell (World.block_lt_of_cell? w _ hx512_0)).trans hx512_0
            replace hx512_1 := (HB.out.cell (World.block_lt_of_cell? w _ hx512_1)).trans hx512_1
            replace hx512_2 := (HB.out.cell (World.block_lt_of_cell? w _ hx512_2)).trans hx512_2
            replace hx512_3 := (HB.out.cell (World.block_lt_of_cell? w _ hx512_3)).trans hx512_3
            replace p512 := eq_true p512
            replace q512 := eq_true q512
            refine start_ (n := 9) (S := fun w' => w'.cell? ⟨gb505, 0, none⟩ = some (.int .i64 a0_0) ∧ w'.cell? ⟨gb505, 1, none⟩ = some (.int .i64 a0_1) ∧ w'.cell? ⟨gb505, 2, none⟩ = some (.slice (some ad512) l0_2.length c0_2) ∧ w'.cell? ⟨gb506, 0, none⟩ = some (.int .i64 a1_0) ∧ w'.cell? ⟨gb506, 1, none⟩ = some (.int .i64 a1_1) ∧ w'.cell? ⟨gb506, 2, none⟩ = some (.int .i64 a1_2) ∧ w'.cell? ⟨gb506, 3, none⟩ = some (.int .i64 a1_3) ∧ w'.cell? (ad512.add ((x35_2).toNat * 4)) = some (.int .i64 ((rd_T37 l0_2 x35_2).f0)) ∧ w'.cell? ⟨(ad512.add ((x35_2).toNat * 4)).block, (ad512.add ((x35_2).toNat * 4)).off + 1, none⟩ = some (.int .i64 ((rd_T37 l0_2 x35_2).f1)) ∧ w'.cell? ⟨(ad512.add ((x35_2).toNat * 4)).block, (ad512.add ((x35_2).toNat * 4)).off + 2, none⟩ = some (.int .i64 ((rd_T37 l0_2 x35_2).f2)) ∧ w'.cell? ⟨(ad512.add ((x35_2).toNat * 4)).block, (ad512.add ((x35_2).toNat * 4)).off + 3, none⟩ = some (.int .i64 ((rd_T37 l0_2 x35_2).f3))) (ds := []) (bs 9 0) (by kernel_rfl) rfl rfl ⟨(blk_cell BK505.out 0).trans rfl, (blk_cell BK505.out 1).trans rfl, (blk_cell BK505.out 2).trans rfl, (blk_cell BK506.out 0).trans rfl, (blk_cell BK506.out 1).trans rfl, (blk_cell BK506.out 2).trans rfl, (blk_cell BK506.out 3).trans rfl, ((HB.out.cell (World.block_lt_of_cell? w _ hw512_0)).trans hw512_0), ((HB.out.cell (World.block_lt_of_cell? w _ hw512_1)).trans hw512_1), ((HB.out.cell (World.block_lt_of_cell? w _ hw512_2)).trans hw512_2), ((HB.out.cell (World.block_lt_of_cell? w _ hw512_3)).trans hw512_3)⟩ (fun hHeld => ?_); refine with_tabW imageeditorref24_Similar.tab11 imageeditorref24_Similar.bits11 (fun HT_ HW_ => ?_)
            generalize wr.drew = w48 at HO_512002 BK505 BK506 BK507 BK511 HB hx512_0 hx512_1 hx512_2 hx512_3 hHeld ⊢
            refine pure_ (i := 0) (N := some 38) (v := ?_) (a' := ?_) (bs 9 1) rfl rfl (any_of HT_.out (by kernel_rfl)) (fun _ _ _ h => h) (Or.inl ⟨by rfl, ?_⟩) ?_ ?_
            rotate_left
            ·intro w'
             go_simp
             with_reducible rfl
            rotate_left
            ·simp only [Act.put, sA, sB, sC, i64_w, i32_w]
             rfl
            refine pure_ (i := 2) (N := some 40) (v := ?_) (a' := ?_) (bs 9 5) rfl rfl (any_of HT_.out (by kernel_rfl)) (fun _ _ _ h => h) (Or.inl ⟨by rfl, ?_⟩) ?_ ?_
            rotate_left
            ·intro w'
             go_simp
             with_reducible rfl
            rotate_left
            ·simp only [Act.put, sA, sB, sC, i64_w, i32_w]
             rfl
            refine pure_ (i := 7) (N := some 45) (v := ?_) (a' := ?_) (bs 9 133) rfl rfl (any_of HT_.out (by kernel_rfl)) (fun _ _ _ h => h) (Or.inl ⟨by rfl, ?_⟩) ?_ ?_
            rotate_left
            ·intro w'
             go_simp
             with_reducible rfl
            rotate_left
            ·simp only [Act.put, sA, sB, sC, i64_w, i32_w]
             rfl
            refine take_ (i := 1) (N := some 39) (v := ?_) (a' := ?_) (bs 9 135) rfl rfl (take_ofW HT_.out HW_.out (by kernel_rfl)) (fun _ _ _ h => h) (Or.inl ⟨by rfl, ?_⟩) hHeld ?_ ?_
            rotate_left
            ·rintro w' ⟨s0, s1, s2, s3, s4, s5, s6, s7, s8, s9, s10⟩
             go_simp
             with_reducible rfl
            rotate_left
            ·simp only [Act.put, sA, sB, sC, i64_w, i32_w]
             rfl
            refine pure_ (i := 3) (N := some 41) (v := ?_) (a' := ?_) (bs 9 143) rfl rfl (any_of HT_.out (by kernel_rfl)) (fun _ _ _ h => h) (Or.inl ⟨by rfl, ?_⟩) ?_ ?_
            rotate_left
            ·intro w'
             go_simp
             with_reducible rfl
            rotate_left
            ·simp only [Act.put, sA, sB, sC, i64_w, i32_w]
             rfl
            refine take_ (i := 4) (N := some 42) (v := ?_) (a' := ?_) (bs 9 159) rfl rfl (take_ofW HT_.out HW_.out (by kernel_rfl)) (fun _ _ _ h => h) (Or.inl ⟨by rfl, ?_⟩) hHeld ?_ ?_
            rotate_left
            ·rintro w' ⟨s0, s1, s2, s3, s4, s5, s6, s7, s8, s9, s10⟩
             go_simp
             with_reducible rfl
            rotate_left
            ·simp only [Act.put, sA, sB, sC, i64_w, i32_w]
             rfl
            refine take_ (i := 5) (N := some 43) (v := ?_) (a' := ?_) (bs 9 191) rfl rfl (take_ofW HT_.out HW_.out (by kernel_rfl)) (fun _ _ _ h => h) (Or.inl ⟨by rfl, ?_⟩) hHeld ?_ ?_
            rotate_left
            ·rintro w' ⟨s0, s1, s2, s3, s4, s5, s6, s7, s8, s9, s10⟩
             go_simp
             with_reducible rfl
            rotate_left
            ·simp only [Act.put, sA, sB, sC, i64_w, i32_w]
             rfl
            refine one_ (i := 6) (N := some 44) (bs 9 255) rfl rfl (one_of HT_.out (by kernel_rfl)) (by decide) (fun K hK => ?_)
            refine goes_ Try.func26 (by kernel_rfl) rfl #[.agg #[.int .i64 ((rd_T37 l0_2 x35_2).f0), .int .i64 ((rd_T37 l0_2 x35_2).f1), .int .i64 ((rd_T37 l0_2 x35_2).f2), .int .i64 ((rd_T37 l0_2 x35_2).f3)], .agg #[.int .i64 a1_0, .int .i64 a1_1, .int .i64 a1_2, .int .i64 a1_3]] (by rfl) rfl rfl (by (try simp only [List.map_toArray, List.map_cons, List.map_nil]); first | done | rfl | (simp only [List.length_drop, List.length_take]; rfl)) ?_
            with_reducible refine (imageeditorref06_Dist.calls k2 ((rd_T37 l0_2 x35_2).f0) ((rd_T37 l0_2 x35_2).f1) ((rd_T37 l0_2 x35_2).f2) ((rd_T37 l0_2 x35_2).f3) a1_0 a1_1 a1_2 a1_3 t513 _ A35.out).mono ?_
            rintro e w49 ⟨rfl, hb⟩
            refine ⟨_, rfl, ?_⟩
            replace HO_512002 := zr HO_512002 hb
            replace BK505 := zk BK505 hb
            replace BK506 := zk BK506 hb
            replace BK507 := zk BK507 hb
            replace BK511 := zk BK511 hb
            replace HB := zb HB hb
            (try clear hb)
            (try clear hb2)
            (try clear hk)
            (try clear hi)
            refine hK.out _ _ ⟨(blk_cell BK505.out 0).trans rfl, (blk_cell BK505.out 1).trans rfl, (blk_cell BK505.out 2).trans rfl, (blk_cell BK506.out 0).trans rfl, (blk_cell BK506.out 1).trans rfl, (blk_cell BK506.out 2).trans rfl, (blk_cell BK506.out 3).trans rfl, ((HB.out.cell (World.block_lt_of_cell? w _ hw512_0)).trans hw512_0), ((HB.out.cell (World.block_lt_of_cell? w _ hw512_1)).trans hw512_1), ((HB.out.cell (World.block_lt_of_cell? w _ hw512_2)).trans hw512_2), ((HB.out.cell (World.block_lt_of_cell? w _ hw512_3)).trans hw512_3)⟩ (fun hHeld => ?_)
            clear hK K
            refine norm_ (a' := ?_) ?_ ?_
            rotate_left
            ·show Act.put _ (some 44) _ = _
             simp only [Act.put, sA, sB, sC, i64_w, i32_w]
             rfl
            refine pure_ (i := 8) (N := some 46) (v := ?_) (a' := ?_) (bs 9 511) rfl rfl (any_of HT_.out (by kernel_rfl)) (fun _ _ _ h => h) (Or.inl ⟨by rfl, ?_⟩) ?_ ?_
            rotate_left
            ·intro w'
             go_simp
             with_reducible rfl
            rotate_left
            ·simp only [Act.put, sA, sB, sC, i64_w, i32_w]
             rfl
            refine done_ (done_of HT_.out (by kernel_rfl)) ?_
            have hnb50 := NB511_505.out
            have hnc50 := NB505_511.out
            have hnb51 := NB511_506.out
            have hnc51 := NB506_511.out
            have hnb52 := NB511_507.out
            have hnc52 := NB507_511.out
            obtain ⟨hcz53_0, hcz53_1, hcz53_2, hfz53_0, hfz53_1, hfz53_2⟩ := zq3 BK511
            try go_wp2_with (first | ((with_reducible refine gate_builtin (b := .append) (xs := #[.tmp 48, .tmp 50]) rfl ?_); at_builtin; refine Kd.R_append (Kd.int .i64) (w0 := w) w.heap.size rfl (.tmp 48) (.tmp 50) 27 3 (.int .i64 0) 8 rfl Try.underlying27 info3 rfl (by decide) (by omega) u512002 x512002_2 0 [.int .i64 0] (fun _ => True) (fun _ => False) rfl rfl ?aP (fun _ hk => hk.elim) ?aF ?aO ?aB ?aS ?aL ?_; (case aP => exact rfl); (case aB => exact (by exact zb0 HB)); (case aF => exact (fun _ _ => trivial)); (case aO => exact (by exact zr0 HO_512002)); (case aS => exact (below_size (by exact zb0 HB))); (case aL => have := LMc47.out; omega); intro v518 w54 ho hb hg hat; rw [← Ny517.out] at ho; have n0_ := Aside0.mk (blk_grown (zk0 BK505) hg (Kd.R_ne HO_512002.out BK505.out (by decide))); have n1_ := Aside0.mk (blk_grown (zk0 BK506) hg (Kd.R_ne HO_512002.out BK506.out (by decide))); have n2_ := Aside0.mk (blk_grown (zk0 BK507) hg (Kd.R_ne HO_512002.out BK507.out (by decide))); have n3_ := Aside0.mk (blk_grown (zk0 BK511) hg (Kd.R_ne HO_512002.out BK511.out (by decide))); have n4_ := Aside0.mk (hb); have n5_ := Aside0.mk (ho); clear BK505; clear BK506; clear BK507; clear BK511; clear HB; clear HO_512002; have BK505 := n0_; have BK506 := n1_; have BK507 := n2_; have BK511 := n3_; have HB := n4_; have HO519 := n5_; clear n0_ n1_ n2_ n3_ n4_ n5_; clear ho hb hg hat; obtain ⟨Ao55, co55, eo55⟩ := Kd.R_slice HO519.out; subst eo55; obtain ⟨hcz56_0, hcz56_1, hcz56_2, hfz56_0, hfz56_1, hfz56_2⟩ := zq3 BK511))
            go_roundg k2
            case measure => have := HJ5.out; have := HK2.out; omega
            case rel => exact ⟨(wrap64 (x35_2 + 1)), (y517), (.slice Ao55 y517.length co55), (by first | rfl | (simp; done) | (simp [*]; done)), H', ⟨by have := HJ5.out; have := HK2.out; omega⟩, ⟨by exact zro HO519 BK511 (by decide)⟩, ⟨by exact zf BK505 NB505_511⟩, ⟨by exact zf BK506 NB506_511⟩, ⟨by exact zf BK507 NB507_511⟩, ⟨by exact zp BK511 rfl⟩, ⟨by exact zbo HB GE511⟩⟩
           ·rw [if_neg c47] at H
            exact absurd H (by simp)
         ·rw [if_neg c34] at H
          exact absurd H (by simp)
        ·rw [if_neg c33] at H
         exact absurd H (by simp)
       ·rw [if_neg c32] at H
        have c32b0 : decide (x35_2 < (l0_2.length : Int)) = false := decide_eq_false c32
        clear c32
        simp only [Option.some.injEq, Prod.mk.injEq] at H
        obtain ⟨rfl, rfl, rfl, rfl⟩ := H
        have hnb57 := NB511_505.out
        have hnc57 := NB505_511.out
        have hnb58 := NB511_506.out
        have hnc58 := NB506_511.out
        have hnb59 := NB511_507.out
        have hnc59 := NB507_511.out
        obtain ⟨hcz60_0, hcz60_1, hcz60_2, hfz60_0, hfz60_1, hfz60_2⟩ := zq3 BK511
        have hnb61 := NB507_505.out
        have hnc61 := NB505_507.out
        have hnb62 := NB507_506.out
        have hnc62 := NB506_507.out
        obtain ⟨hcz63_0, hcz63_1, hcz63_2, hfz63_0, hfz63_1, hfz63_2⟩ := zq3 BK507
        obtain ⟨Ao64, co64, eo64⟩ := Kd.R_slice HO_512002.out
        subst eo64
        go_wp2
        refine bodyPost_ret (results_ct rfl _ _ gb507 29 #[.int .i64 a0_0, .int .i64 a0_1, .slice Ao64 x512002_2.length co64] (0, 0) _ rfl (by exact zp BK507 rfl) Try.underlying29 rfl (by kernel_rfl)) rfl ?_
        exact ⟨_, by first | rfl | (simp [errW_none, errW_some] <;> rfl) | (simp [*, errW_none, errW_some] <;> rfl), by exact zro HO_512002 BK507 (by decide), by exact zbo HB GE507⟩
 ·rw [if_neg c5] at H
  have c5b0 : (t508 == 0) = false := beq_eq_false_iff_ne.mpr c5
  have c5b1 : (t508 != 0) = true := bne_iff_ne.mpr c5
  simp only [Option.some.injEq, Prod.mk.injEq] at H
  obtain ⟨rfl, rfl, rfl, rfl⟩ := H
  go_enter Try.func14, Try.ntmps14
  go_wp2_with (first | ((with_reducible refine gate_dst (N := 3) rfl ?_); refine box_event ?hg (N := 3) ?hd (cs := #[.int .i64 a0_0, .int .i64 a0_1, .slice A0_2 l0_2.length c0_2]) (t := 24) ?hr ?_; (case hd => rfl); (case hg => rfl); (case hr => first | (go_simp; done) | (go_simp; rfl)); intro gb505 hg w65 hbox hb; have GW505 := zg HB hg; have GE505 := zg HB hg; have n0_ := Aside0.mk (hbox); replace HB := zb HB hb; have BK505 := n0_; clear n0_; clear hb hbox hg) | ((with_reducible refine gate_dst (N := 4) rfl ?_); refine box_event ?hg (N := 4) ?hd (cs := #[.int .i64 a1_0, .int .i64 a1_1, .int .i64 a1_2, .int .i64 a1_3]) (t := 37) ?hr ?_; (case hd => rfl); (case hg => rfl); (case hr => first | (go_simp; done) | (go_simp; rfl)); intro gb506 hg w66 hbox hb; have GW506 := zg HB hg; have GE506 := zg HB hg; have NB505_506 := zn BK505 hg; have NB506_505 := zn' BK505 hg; have n0_ := Aside0.mk (hbox); replace BK505 := zk BK505 hb; replace HB := zb HB hb; have BK506 := n0_; clear n0_; clear hb hbox hg) | ((with_reducible refine gate_dst (N := 6) rfl ?_); refine box_event ?hg (N := 6) ?hd (cs := #[.int .i64 0, .int .i64 0, .slice none 0 0]) (t := 29) ?hr ?_; (case hd => rfl); (case hg => rfl); (case hr => first | (go_simp; done) | (go_simp; rfl)); intro gb507 hg w67 hbox hb; have GW507 := zg HB hg; have GE507 := zg HB hg; have NB505_507 := zn BK505 hg; have NB507_505 := zn' BK505 hg; have NB506_507 := zn BK506 hg; have NB507_506 := zn' BK506 hg; have n0_ := Aside0.mk (hbox); replace BK505 := zk BK505 hb; replace BK506 := zk BK506 hb; replace HB := zb HB hb; have BK507 := n0_; clear n0_; clear hb hbox hg; have hnb68 := NB505_506.out; have hnc68 := NB506_505.out; have hnb69 := NB505_507.out; have hnc69 := NB507_505.out; obtain ⟨hcz70_0, hcz70_1, hcz70_2, hfz70_0, hfz70_1, hfz70_2⟩ := zq3 BK505) | ((with_reducible refine gate_callee (f := 19) rfl ?_); refine goesL_ (some 13) rfl rfl Try.func19 (by kernel_rfl) rfl #[.agg #[.int .i64 a0_0, .int .i64 a0_1, .slice A0_2 l0_2.length c0_2]] rfl (by (try simp only [List.map_toArray, List.map_cons, List.map_nil]); first | done | rfl | (simp only [List.length_drop, List.length_take]; rfl)) ?_; (with_reducible refine (imageeditorref11_Check.calls k a0_0 a0_1 _ _ l0_2 t508 _ ?side1 ?side2 A4.out).mono ?_); (case side1 => repeat (first | exact (Kd.C_below HR0_2.out HB.out) | (with_reducible refine Kd.C_alloc ?_ _) | (with_reducible refine Kd.C_drewN ?_ _) | (with_reducible refine Kd.C_drew ?_))); (case side2 => exact HC0_2.out); rintro e w71 ⟨rfl, hb⟩; refine ⟨_, rfl, ?_⟩; replace BK505 := zk BK505 hb; replace BK506 := zk BK506 hb; replace BK507 := zk BK507 hb; replace HB := zb HB hb; (try clear hb); (try clear hb2); (try clear hk); (try clear hi); have hnb72 := NB507_506.out; have hnc72 := NB506_507.out; obtain ⟨hcz73_0, hcz73_1, hcz73_2, hfz73_0, hfz73_1, hfz73_2⟩ := zq3 BK507))
  refine bodyPost_ret (results_ct rfl _ _ gb507 29 #[.int .i64 0, .int .i64 0, .slice none 0 0] (0, 0) _ rfl (by exact zp BK507 rfl) Try.underlying29 rfl (by kernel_rfl)) rfl ?_
  exact ⟨_, by first | rfl | (simp [errW_none, errW_some] <;> rfl) | (simp [*, errW_none, errW_some] <;> rfl), by first | exact Kd.R_nil _ _ _ _ _ | exact Kd.N_nil _ _ _ _ _ | exact Kd.V_nil _ _ _ _ _ | exact Kd.Q_nil _ _ _ _ _ | exact Kd.S_nil _ _ _ _ _, by exact zbo HB GE507⟩

/-! ### imageeditorref01_Floor: function 51 -/
def imageeditorref01_Floor.j0 : Nat → Int → Int → Bool → Option (Int)
 | 0, _, _, _ => none
 | k + 1, x0, x1, x14 => if x14 = true then (some 9223372036854775807) else (if x1 = 0 then (none) else (if (Int.tmod x0 x1) = 0 then (some (wrap64 (Int.tdiv x0 x1))) else (if ((decide ((Int.tmod x0 x1) < 0)) != (decide (x1 < 0))) = true then (some (wrap64 ((wrap64 (Int.tdiv x0 x1)) - 1))) else (some (wrap64 (Int.tdiv x0 x1))))))
def imageeditorref01_Floor.f (k : Nat) (a0 : Int) (a1 : Int) : Option (Int) := if a1 = 0 then (some 0) else (if a0 = (-9223372036854775808) then (imageeditorref01_Floor.j0 k a0 a1 (a1 == (-1))) else (imageeditorref01_Floor.j0 k a0 a1 false))
theorem imageeditorref01_Floor.mono_l : ∀ k, (∀ y0 y1 y2, LeO (imageeditorref01_Floor.j0 k y0 y1 y2) (imageeditorref01_Floor.j0 (k + 1) y0 y1 y2))
 | 0 => fun _ _ _ r h => by simp [imageeditorref01_Floor.j0] at h
 | k + 1 => by
  have ih0 := imageeditorref01_Floor.mono_l k
  ·intro y0 y1 y2
   unfold imageeditorref01_Floor.j0
   repeat' first
   | (with_reducible exact ih0 _ _ _)
   | (with_reducible exact LeO.refl _)
   | (with_reducible exact LeO.none _)
   | (with_reducible refine LeO.ite ?_ ?_)
   | (with_reducible refine LeO.bind ?_ (fun _ => ?_))
   | exact ih0 _ _ _
   | exact LeO.none _
   | refine LeO.ite ?_ ?_
   | refine LeO.bind ?_ (fun _ => ?_)
theorem imageeditorref01_Floor.mono : ∀ a0 a1 k, LeO (imageeditorref01_Floor.f k a0 a1) (imageeditorref01_Floor.f (k + 1) a0 a1) := by
 intro a0 a1 k
 have ih0 := imageeditorref01_Floor.mono_l k
 unfold imageeditorref01_Floor.f
 repeat' first
   | (with_reducible exact ih0 _ _ _)
   | (with_reducible exact LeO.refl _)
   | (with_reducible exact LeO.none _)
   | (with_reducible refine LeO.ite ?_ ?_)
   | (with_reducible refine LeO.bind ?_ (fun _ => ?_))
   | exact ih0 _ _ _
   | exact LeO.none _
   | refine LeO.ite ?_ ?_
   | refine LeO.bind ?_ (fun _ => ?_)
set_option maxHeartbeats 8000000 in
set_option maxRecDepth 100000 in
theorem imageeditorref01_Floor.calls (k : Nat) (a0 : Int) (a1 : Int) (r : Int) (w : World) (h : imageeditorref01_Floor.f k a0 a1 = some r) :
  Calls Try.prog 51 #[.int .i64 a0, .int .i64 a1] w fun e w' => e = .returned (.int .i64 r) ∧ Drawn0 w w' := by
 have H : (if a1 = 0 then (some 0) else (if a0 = (-9223372036854775808) then (imageeditorref01_Floor.j0 k a0 a1 (a1 == (-1))) else (imageeditorref01_Floor.j0 k a0 a1 false))) = some r := h
 clear h
 by_cases c3 : a1 = 0
 ·rw [if_pos c3] at H
  have c3b0 : (a1 == 0) = true := beq_iff_eq.mpr c3
  have c3b1 : (a1 != 0) = false := bne_eq_false_iff_eq.mpr c3
  clear c3
  obtain rfl := Option.some.inj H
  go_enter Try.func51, Try.ntmps51
  go_wp2
  repeat (go_quiet (fail); try go_wp2)
  go_ret
  exact ⟨by first | rfl | (simp; done) | (simp [*]; done), by repeat (first | exact Drawn0.refl _ | apply Drawn0.step)⟩
 ·rw [if_neg c3] at H
  have c3b0 : (a1 == 0) = false := beq_eq_false_iff_ne.mpr c3
  have c3b1 : (a1 != 0) = true := bne_iff_ne.mpr c3
  have HC4 := Aside0.mk H
  clear H
  go_enter Try.func51, Try.ntmps51
  go_upto_region 3 with (fail)
  repeat (go_quiet (fail); go_upto_region 3 with (fail))
  go_cut [14] (fun v14 wc => ∃ (kq : Nat) (x14_3 : Bool), v14 = .bool x14_3 ∧ Aside0 (imageeditorref01_Floor.j0 kq a0 a1 x14_3 = some r) ∧ Aside0 (kq ≤ k) ∧ Drawn0 w wc)
  case first =>
   have H := HC4.out
   clear HC4
   by_cases c5 : a0 = (-9223372036854775808)
   ·rw [if_pos c5] at H
    have c5b0 : (a0 == (-9223372036854775808)) = true := beq_iff_eq.mpr c5
    have c5b1 : (a0 != (-9223372036854775808)) = false := bne_eq_false_iff_eq.mpr c5
    clear c5
    (first | rw [c5b0] | (simp only [i64_w, i32_w]; rw [c5b0]) | skip)
    have H' := Aside0.mk H
    clear H
    go_wp2
    repeat (go_quiet (fail); try go_wp2)
    go_meet
    case rel => exact ⟨_, ((a1 == (-1))), (by first | rfl | (simp; done) | (simp [*]; done)), H', ⟨by first | omega | exact Nat.le_refl _⟩, by repeat (first | exact Drawn0.refl _ | apply Drawn0.step)⟩
   ·rw [if_neg c5] at H
    have c5b0 : (a0 == (-9223372036854775808)) = false := beq_eq_false_iff_ne.mpr c5
    have c5b1 : (a0 != (-9223372036854775808)) = true := bne_iff_ne.mpr c5
    (first | rw [c5b0] | (simp only [i64_w, i32_w]; rw [c5b0]) | skip)
    have H' := Aside0.mk H
    clear H
    go_wp2
    repeat (go_quiet (fail); try go_wp2)
    go_meet
    case rel => exact ⟨_, (false), (by first | rfl | (simp; done) | (simp [*]; done)), H', ⟨by first | omega | exact Nat.le_refl _⟩, by repeat (first | exact Drawn0.refl _ | apply Drawn0.step)⟩
  case rest =>
   clear HC4
   try clear p2
   try clear c3
   try clear c3b0
   try clear c3b1
   try clear c5
   try clear c5b0
   try clear c5b1
   obtain ⟨kq, x14_3, rfl, HA, HJ3, ⟨mc3, rfl⟩⟩ := hcut
   cases kq with
   | zero => exact absurd HA.out (by simp [imageeditorref01_Floor.j0])
   | succ kj3 =>
    have H := HA.out
    clear HA
    simp only [imageeditorref01_Floor.j0] at H
    by_cases c6 : x14_3 = true
    ·subst c6
     have H1 : (some 9223372036854775807) = some r := by rw [if_pos rfl] at H; exact H
     clear H
     have H := H1
     clear H1
     obtain rfl := Option.some.inj H
     go_wp2
     repeat (go_quiet (fail); try go_wp2)
     go_ret
     exact ⟨by first | rfl | (simp; done) | (simp [*]; done), by repeat (first | exact Drawn0.refl _ | apply Drawn0.step)⟩
    ·replace c6 := Bool.eq_false_iff.mpr c6
     subst c6
     have H1 : (if a1 = 0 then (none) else (if (Int.tmod a0 a1) = 0 then (some (wrap64 (Int.tdiv a0 a1))) else (if ((decide ((Int.tmod a0 a1) < 0)) != (decide (a1 < 0))) = true then (some (wrap64 ((wrap64 (Int.tdiv a0 a1)) - 1))) else (some (wrap64 (Int.tdiv a0 a1)))))) = some r := by rw [if_neg (show ¬ (false = true) by decide)] at H; exact H
     clear H
     have H := H1
     clear H1
     by_cases c7 : a1 = 0
     ·rw [if_pos c7] at H
      exact absurd H (by simp)
     ·rw [if_neg c7] at H
      have c7b0 : (a1 == 0) = false := beq_eq_false_iff_ne.mpr c7
      have c7b1 : (a1 != 0) = true := bne_iff_ne.mpr c7
      by_cases c8 : (Int.tmod a0 a1) = 0
      ·rw [if_pos c8] at H
       have c8b0 : ((Int.tmod a0 a1) == 0) = true := beq_iff_eq.mpr c8
       have c8b1 : ((Int.tmod a0 a1) != 0) = false := bne_eq_false_iff_eq.mpr c8
       clear c8
       obtain rfl := Option.some.inj H
       go_wp2
       repeat (go_quiet (fail); try go_wp2)
       go_ret
       exact ⟨by first | rfl | (simp; done) | (simp [*]; done), by repeat (first | exact Drawn0.refl _ | apply Drawn0.step)⟩
      ·rw [if_neg c8] at H
       have c8b0 : ((Int.tmod a0 a1) == 0) = false := beq_eq_false_iff_ne.mpr c8
       have c8b1 : ((Int.tmod a0 a1) != 0) = true := bne_iff_ne.mpr c8
       by_cases c9 : ((decide ((Int.tmod a0 a1) < 0)) != (decide (a1 < 0))) = true
       ·rw [if_pos c9] at H
        have c9b0 : ((decide ((Int.tmod a0 a1) < 0)) != (decide (a1 < 0))) = true := c9
        (try (have c9b1 : decide ((decide ((Int.tmod a0 a1) < 0)) = (decide (a1 < 0))) = false := by simpa using c9))
        (try (have c9b2 : ((decide ((Int.tmod a0 a1) < 0)) == (decide (a1 < 0))) = false := by simpa using c9))
        (try (have c9b3 : ¬ ((decide ((Int.tmod a0 a1) < 0)) = (decide (a1 < 0))) := by simpa using c9))
        clear c9
        obtain rfl := Option.some.inj H
        go_wp2
        repeat (go_quiet (fail); try go_wp2)
        go_ret
        exact ⟨by first | rfl | (simp; done) | (simp [*]; done), by repeat (first | exact Drawn0.refl _ | apply Drawn0.step)⟩
       ·rw [if_neg c9] at H
        have c9b0 : ((decide ((Int.tmod a0 a1) < 0)) != (decide (a1 < 0))) = false := by simpa using c9
        (try (have c9b1 : decide ((decide ((Int.tmod a0 a1) < 0)) = (decide (a1 < 0))) = true := by simpa using c9))
        (try (have c9b2 : ((decide ((Int.tmod a0 a1) < 0)) == (decide (a1 < 0))) = true := by simpa using c9))
        clear c9
        obtain rfl := Option.some.inj H
        go_wp2
        repeat (go_quiet (fail); try go_wp2)
        go_ret
        exact ⟨by first | rfl | (simp; done) | (simp [*]; done), by repeat (first | exact Drawn0.refl _ | apply Drawn0.step)⟩

/-! ### imageeditorref01_Abs: function 52 -/
def imageeditorref01_Abs.f (a0 : Int) : Option (Int) := if a0 < 0 then (some (IntKind.u64.wrap (-(IntKind.u64.wrap (a0))))) else (some (IntKind.u64.wrap (a0)))
set_option maxHeartbeats 8000000 in
set_option maxRecDepth 100000 in
theorem imageeditorref01_Abs.calls (a0 : Int) (r : Int) (w : World) (h : imageeditorref01_Abs.f a0 = some r) :
  Calls Try.prog 52 #[.int .i64 a0] w fun e w' => e = .returned (.int .u64 r) ∧ Drawn0 w w' := by
 have H : (if a0 < 0 then (some (IntKind.u64.wrap (-(IntKind.u64.wrap (a0))))) else (some (IntKind.u64.wrap (a0)))) = some r := h
 clear h
 by_cases c2 : a0 < 0
 ·rw [if_pos c2] at H
  have c2b0 : decide (a0 < 0) = true := decide_eq_true c2
  clear c2
  obtain rfl := Option.some.inj H
  go_enter Try.func52, Try.ntmps52
  go_wp2
  go_ret
  exact ⟨by first | rfl | (simp; done) | (simp [*]; done), by repeat (first | exact Drawn0.refl _ | apply Drawn0.step)⟩
 ·rw [if_neg c2] at H
  have c2b0 : decide (a0 < 0) = false := decide_eq_false c2
  clear c2
  obtain rfl := Option.some.inj H
  go_enter Try.func52, Try.ntmps52
  go_wp2
  go_ret
  exact ⟨by first | rfl | (simp; done) | (simp [*]; done), by repeat (first | exact Drawn0.refl _ | apply Drawn0.step)⟩

end Go.Proofs.Ytmmncannibnklaa.G
