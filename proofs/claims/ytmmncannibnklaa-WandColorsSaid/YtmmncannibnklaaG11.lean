-- Written by a program of this session (wip/gx.py over the kit's print); Lean checks it.
import Derived.Test.YtmmncannibnklaaG0
import Derived.Test.YtmmncannibnklaaG2
import Derived.Test.YtmmncannibnklaaG3
import Derived.Test.YtmmncannibnklaaG10
namespace Go.Proofs.Ytmmncannibnklaa.G
open Go.RowKit Go.Proofs.YtmmncannibnklaaW.PrintWords Go.Proofs.YtmmncannibnklaaW.PrintLast Go.Proofs.YtmmncannibnklaaW.PrintMore
attribute [local go_sem] max2_int min2_int max_two min_two max_three min_three max_four min_four   -- for this text's walks alone
set_option linter.unusedVariables false
set_option linter.unusedSimpArgs false

/-! ### wand_Similar: function 13 -/
def wand_Similar.f (k : Nat) (a0_0 : Int) (a0_1 : Int) (l0_2 : List (S37)) (a1_0 : Int) (a1_1 : Int) (a1_2 : Int) (a1_3 : Int) (a2 : Int) : Option (Int × Int × List Int × Int) := (raster_Check.f k a0_0 a0_1 l0_2).bind fun t285 => (if t285 = 0 then ((pixel_Valid.f a1_0 a1_1 a1_2 a1_3).bind fun t286 => (if t286 = true then ((wand_isUnit.f a2).bind fun t287 => (if t287 = true then ((wand_each__wand_Similar_1.f k a0_0 a0_1 l0_2 a1_0 a1_1 a1_2 a1_3 a2).bind fun bt288 => (some (bt288.1, bt288.2.1, bt288.2.2, 0))) else (some (0, 0, ([] : List Int), 2)))) else (some (0, 0, ([] : List Int), 2)))) else (some (0, 0, ([] : List Int), t285)))
theorem wand_Similar.mono : ∀ a0 a1 a2 a3 a4 a5 a6 a7 k, LeO (wand_Similar.f k a0 a1 a2 a3 a4 a5 a6 a7) (wand_Similar.f (k + 1) a0 a1 a2 a3 a4 a5 a6 a7) := by
 intro a0 a1 a2 a3 a4 a5 a6 a7 k
 unfold wand_Similar.f
 repeat' first
   | (with_reducible exact raster_Check.mono _ _ _ _)
   | (with_reducible exact wand_each__wand_Similar_1.mono _ _ _ _ _ _ _ _ _)
   | (with_reducible exact LeO.refl _)
   | (with_reducible exact LeO.none _)
   | (with_reducible refine LeO.ite ?_ ?_)
   | (with_reducible refine LeO.bind ?_ (fun _ => ?_))
   | exact raster_Check.mono _ _ _ _
   | exact wand_each__wand_Similar_1.mono _ _ _ _ _ _ _ _ _
   | exact LeO.none _
   | refine LeO.ite ?_ ?_
   | refine LeO.bind ?_ (fun _ => ?_)
set_option maxHeartbeats 8000000 in
set_option maxRecDepth 100000 in
theorem wand_Similar.calls (k : Nat) (a0_0 : Int) (a0_1 : Int) (A0_2 : Option Addr) (c0_2 : Nat) (l0_2 : List (S37)) (a1_0 : Int) (a1_1 : Int) (a1_2 : Int) (a1_3 : Int) (a2 : Int) (r1 : Int) (r2 : Int) (r3 : List Int) (r4 : Int) (w : World) (hr0_2 : Kd.C k37 w A0_2 l0_2.length l0_2) (hc0_2 : l0_2.length ≤ c0_2) (h : wand_Similar.f k a0_0 a0_1 l0_2 a1_0 a1_1 a1_2 a1_3 a2 = some (r1, r2, r3, r4)) :
  Calls Try.prog 13 #[.agg #[.int .i64 a0_0, .int .i64 a0_1, .slice A0_2 l0_2.length c0_2], .agg #[.int .i64 a1_0, .int .i64 a1_1, .int .i64 a1_2, .int .i64 a1_3], .int .i64 a2] w fun e w' => ∃ v2_ : Value, e = .returned (.tuple #[.agg #[.int .i64 r1, .int .i64 r2, v2_], .int .i64 r4]) ∧ Kd.R (Kd.int .i64) 3 w' w.heap.size (fun _ => True) v2_ r3 ∧ Below w.heap.size w w' := by
 have hu24 := Try.underlying24
 have hu37 := Try.underlying37
 have hu29 := Try.underlying29
 have HR0_2 := Aside0.mk hr0_2
 have HC0_2 := Aside0.mk hc0_2
 clear hr0_2 hc0_2
 have HB := Aside0.mk (Below.refl w.heap.size w)
 have H : ((raster_Check.f k a0_0 a0_1 l0_2).bind fun t285 => (if t285 = 0 then ((pixel_Valid.f a1_0 a1_1 a1_2 a1_3).bind fun t286 => (if t286 = true then ((wand_isUnit.f a2).bind fun t287 => (if t287 = true then ((wand_each__wand_Similar_1.f k a0_0 a0_1 l0_2 a1_0 a1_1 a1_2 a1_3 a2).bind fun bt288 => (some (bt288.1, bt288.2.1, bt288.2.2, 0))) else (some (0, 0, ([] : List Int), 2)))) else (some (0, 0, ([] : List Int), 2)))) else (some (0, 0, ([] : List Int), t285)))) = some (r1, r2, r3, r4) := h
 clear h
 replace H := Option.bind_eq_some_iff.mp H
 obtain ⟨t285, A40, H⟩ := H
 replace H : (if t285 = 0 then ((pixel_Valid.f a1_0 a1_1 a1_2 a1_3).bind fun t286 => (if t286 = true then ((wand_isUnit.f a2).bind fun t287 => (if t287 = true then ((wand_each__wand_Similar_1.f k a0_0 a0_1 l0_2 a1_0 a1_1 a1_2 a1_3 a2).bind fun bt288 => (some (bt288.1, bt288.2.1, bt288.2.2, 0))) else (some (0, 0, ([] : List Int), 2)))) else (some (0, 0, ([] : List Int), 2)))) else (some (0, 0, ([] : List Int), t285))) = some (r1, r2, r3, r4) := H
 have A4 := Aside0.mk A40
 clear A40
 by_cases c5 : t285 = 0
 ·rw [if_pos c5] at H
  have c5b0 : (t285 == 0) = true := beq_iff_eq.mpr c5
  have c5b1 : (t285 != 0) = false := bne_eq_false_iff_eq.mpr c5
  clear c5
  replace H := Option.bind_eq_some_iff.mp H
  obtain ⟨t286, A60, H⟩ := H
  replace H : (if t286 = true then ((wand_isUnit.f a2).bind fun t287 => (if t287 = true then ((wand_each__wand_Similar_1.f k a0_0 a0_1 l0_2 a1_0 a1_1 a1_2 a1_3 a2).bind fun bt288 => (some (bt288.1, bt288.2.1, bt288.2.2, 0))) else (some (0, 0, ([] : List Int), 2)))) else (some (0, 0, ([] : List Int), 2))) = some (r1, r2, r3, r4) := H
  have A6 := Aside0.mk A60
  clear A60
  by_cases c7 : t286 = true
  ·subst c7
   have H1 : ((wand_isUnit.f a2).bind fun t287 => (if t287 = true then ((wand_each__wand_Similar_1.f k a0_0 a0_1 l0_2 a1_0 a1_1 a1_2 a1_3 a2).bind fun bt288 => (some (bt288.1, bt288.2.1, bt288.2.2, 0))) else (some (0, 0, ([] : List Int), 2)))) = some (r1, r2, r3, r4) := by rw [if_pos rfl] at H; exact H
   clear H
   have H := H1
   clear H1
   replace H := Option.bind_eq_some_iff.mp H
   obtain ⟨t287, A80, H⟩ := H
   replace H : (if t287 = true then ((wand_each__wand_Similar_1.f k a0_0 a0_1 l0_2 a1_0 a1_1 a1_2 a1_3 a2).bind fun bt288 => (some (bt288.1, bt288.2.1, bt288.2.2, 0))) else (some (0, 0, ([] : List Int), 2))) = some (r1, r2, r3, r4) := H
   have A8 := Aside0.mk A80
   clear A80
   by_cases c9 : t287 = true
   ·subst c9
    have H1 : ((wand_each__wand_Similar_1.f k a0_0 a0_1 l0_2 a1_0 a1_1 a1_2 a1_3 a2).bind fun bt288 => (some (bt288.1, bt288.2.1, bt288.2.2, 0))) = some (r1, r2, r3, r4) := by rw [if_pos rfl] at H; exact H
    clear H
    have H := H1
    clear H1
    replace H := Option.bind_eq_some_iff.mp H
    obtain ⟨⟨t288, t289, t290⟩, A100, H⟩ := H
    replace H : (some (t288, t289, t290, 0)) = some (r1, r2, r3, r4) := H
    have A10 := Aside0.mk A100
    clear A100
    simp only [Option.some.injEq, Prod.mk.injEq] at H
    obtain ⟨rfl, rfl, rfl, rfl⟩ := H
    go_enter Try.func13, Try.ntmps13
    go_wp2_with (first | ((with_reducible refine gate_dst (N := 3) rfl ?_); refine box_event ?hg (N := 3) ?hd (cs := #[.int .i64 a0_0, .int .i64 a0_1, .slice A0_2 l0_2.length c0_2]) (t := 24) ?hr ?_; (case hd => rfl); (case hg => rfl); (case hr => first | (go_simp; done) | (go_simp; rfl)); intro gb281 hg w11 hbox hb; have GW281 := zg HB hg; have GE281 := zg HB hg; have n0_ := Aside0.mk (hbox); replace HB := zb HB hb; have BK281 := n0_; clear n0_; clear hb hbox hg) | ((with_reducible refine gate_dst (N := 4) rfl ?_); refine box_event ?hg (N := 4) ?hd (cs := #[.int .i64 a1_0, .int .i64 a1_1, .int .i64 a1_2, .int .i64 a1_3]) (t := 37) ?hr ?_; (case hd => rfl); (case hg => rfl); (case hr => first | (go_simp; done) | (go_simp; rfl)); intro gb282 hg w12 hbox hb; have GW282 := zg HB hg; have GE282 := zg HB hg; have NB281_282 := zn BK281 hg; have NB282_281 := zn' BK281 hg; have n0_ := Aside0.mk (hbox); replace BK281 := zk BK281 hb; replace HB := zb HB hb; have BK282 := n0_; clear n0_; clear hb hbox hg) | ((with_reducible refine gate_dst (N := 5) rfl ?_); refine box_event ?hg (N := 5) ?hd (cs := #[.int .i64 a2]) (t := 3) ?hr ?_; (case hd => rfl); (case hg => rfl); (case hr => first | (go_simp; done) | (go_simp; rfl)); intro gb283 hg w13 hbox hb; have GW283 := zg HB hg; have GE283 := zg HB hg; have NB281_283 := zn BK281 hg; have NB283_281 := zn' BK281 hg; have NB282_283 := zn BK282 hg; have NB283_282 := zn' BK282 hg; have n0_ := Aside0.mk (hbox); replace BK281 := zk BK281 hb; replace BK282 := zk BK282 hb; replace HB := zb HB hb; have BK283 := n0_; clear n0_; clear hb hbox hg) | ((with_reducible refine gate_dst (N := 6) rfl ?_); refine box_event ?hg (N := 6) ?hd (cs := #[.int .i64 0, .int .i64 0, .slice none 0 0]) (t := 29) ?hr ?_; (case hd => rfl); (case hg => rfl); (case hr => first | (go_simp; done) | (go_simp; rfl)); intro gb284 hg w14 hbox hb; have GW284 := zg HB hg; have GE284 := zg HB hg; have NB281_284 := zn BK281 hg; have NB284_281 := zn' BK281 hg; have NB282_284 := zn BK282 hg; have NB284_282 := zn' BK282 hg; have NB283_284 := zn BK283 hg; have NB284_283 := zn' BK283 hg; have n0_ := Aside0.mk (hbox); replace BK281 := zk BK281 hb; replace BK282 := zk BK282 hb; replace BK283 := zk BK283 hb; replace HB := zb HB hb; have BK284 := n0_; clear n0_; clear hb hbox hg; have hnb15 := NB281_282.out; have hnc15 := NB282_281.out; have hnb16 := NB281_283.out; have hnc16 := NB283_281.out; have hnb17 := NB281_284.out; have hnc17 := NB284_281.out; obtain ⟨hcz18_0, hcz18_1, hcz18_2, hfz18_0, hfz18_1, hfz18_2⟩ := zq3 BK281) | ((with_reducible refine gate_callee (f := 22) rfl ?_); refine goesL_ (some 10) rfl rfl Try.func22 (by kernel_rfl) rfl #[.agg #[.int .i64 a0_0, .int .i64 a0_1, .slice A0_2 l0_2.length c0_2]] rfl (by (try simp only [List.map_toArray, List.map_cons, List.map_nil]); first | done | rfl | (simp only [List.length_drop, List.length_take]; rfl)) ?_; (with_reducible refine (raster_Check.calls k a0_0 a0_1 _ _ l0_2 t285 _ ?side1 ?side2 A4.out).mono ?_); (case side1 => repeat (first | exact (Kd.C_below HR0_2.out HB.out) | (with_reducible refine Kd.C_alloc ?_ _) | (with_reducible refine Kd.C_drewN ?_ _) | (with_reducible refine Kd.C_drew ?_))); (case side2 => exact HC0_2.out); rintro e w19 ⟨rfl, hb⟩; refine ⟨_, rfl, ?_⟩; replace BK281 := zk BK281 hb; replace BK282 := zk BK282 hb; replace BK283 := zk BK283 hb; replace BK284 := zk BK284 hb; replace HB := zb HB hb; (try clear hb); (try clear hb2); (try clear hk); (try clear hi); have hnb20 := NB282_283.out; have hnc20 := NB283_282.out; have hnb21 := NB282_284.out; have hnc21 := NB284_282.out; obtain ⟨hcz22_0, hcz22_1, hcz22_2, hcz22_3, hfz22_0, hfz22_1, hfz22_2, hfz22_3⟩ := zq4 BK282) | ((with_reducible refine gate_callee (f := 30) rfl ?_); refine goesL_ (some 16) rfl rfl Try.func30 (by kernel_rfl) rfl #[.agg #[.int .i64 a1_0, .int .i64 a1_1, .int .i64 a1_2, .int .i64 a1_3]] rfl (by (try simp only [List.map_toArray, List.map_cons, List.map_nil]); first | done | rfl | (simp only [List.length_drop, List.length_take]; rfl)) ?_; (with_reducible refine (pixel_Valid.calls a1_0 a1_1 a1_2 a1_3 true _ A6.out).mono ?_); rintro e w23 ⟨rfl, hb⟩; refine ⟨_, rfl, ?_⟩; replace BK281 := zk BK281 hb; replace BK282 := zk BK282 hb; replace BK283 := zk BK283 hb; replace BK284 := zk BK284 hb; replace HB := zb HB hb; (try clear hb); (try clear hb2); (try clear hk); (try clear hi); have hnb24 := NB283_284.out; have hnc24 := NB284_283.out; obtain ⟨hcz25_0, hfz25_0⟩ := zq1 BK283) | (go_at_call 23; (with_reducible refine (wand_isUnit.calls a2 true _ A8.out).mono ?_); rintro e w' ⟨rfl, ⟨nd, rfl⟩⟩; (try (rw [drewN_self w23]; generalize hq_ : World.drewN w23 _ = w23; have n0_ : Aside0 (w23.heap[gb281]? = some (.cells #[.int .i64 a0_0, .int .i64 a0_1, .slice A0_2 l0_2.length c0_2] 24 (0, 0))) := ⟨by rw [← hq_]; exact (by exact zk0 BK281)⟩; have n1_ : Aside0 (w23.heap[gb282]? = some (.cells #[.int .i64 a1_0, .int .i64 a1_1, .int .i64 a1_2, .int .i64 a1_3] 37 (0, 0))) := ⟨by rw [← hq_]; exact (by exact zk0 BK282)⟩; have n2_ : Aside0 (w23.heap[gb283]? = some (.cells #[.int .i64 a2] 3 (0, 0))) := ⟨by rw [← hq_]; exact (by exact zk0 BK283)⟩; have n3_ : Aside0 (w23.heap[gb284]? = some (.cells #[.int .i64 0, .int .i64 0, .slice none 0 0] 29 (0, 0))) := ⟨by rw [← hq_]; exact (by exact zk0 BK284)⟩; have n4_ : Aside0 (Below w.heap.size w w23) := ⟨by rw [← hq_]; exact (by exact zb0 HB)⟩; clear BK281 BK282 BK283 BK284 HB hq_; have BK281 := n0_; have BK282 := n1_; have BK283 := n2_; have BK284 := n3_; have HB := n4_; clear n0_ n1_ n2_ n3_ n4_)); obtain ⟨hcz26_0, hcz26_1, hcz26_2, hfz26_0, hfz26_1, hfz26_2⟩ := zq3 BK281) | ((with_reducible refine gate_callee (f := 31) rfl ?_); refine goesL_ (some 26) rfl rfl Try.func31 (by kernel_rfl) rfl #[.agg #[.int .i64 a0_0, .int .i64 a0_1, .slice A0_2 l0_2.length c0_2], .func (.func 32) #[] #[.pointer (some ⟨gb282, 0, none⟩), .pointer (some ⟨gb283, 0, none⟩)]] rfl (by (try simp only [List.map_toArray, List.map_cons, List.map_nil]); first | done | rfl | (simp only [List.length_drop, List.length_take]; rfl)) ?_; (with_reducible refine (wand_each__wand_Similar_1.calls k a0_0 a0_1 _ _ l0_2 gb282 gb283 a1_0 a1_1 a1_2 a1_3 a2 t288 t289 t290 _ ?side1 ?side2 ?side3 ?side4 A10.out).mono ?_); (case side1 => repeat (first | exact (Kd.C_below HR0_2.out HB.out) | (with_reducible refine Kd.C_alloc ?_ _) | (with_reducible refine Kd.C_drewN ?_ _) | (with_reducible refine Kd.C_drew ?_))); (case side2 => exact HC0_2.out); (case side3 => exact zk0 BK282); (case side4 => exact zk0 BK283); rintro e w27 ⟨v291, rfl, ho0, hb⟩; refine ⟨_, rfl, ?_⟩; have n0_ := Aside0.mk (Kd.R_lower (Kd.R_newB ho0 (zk0 BK283)) (below_size (by exact zb0 HB))); replace BK281 := zk BK281 hb; replace BK282 := zk BK282 hb; replace BK283 := zk BK283 hb; replace BK284 := zk BK284 hb; replace HB := zb HB hb; have HO292 := n0_; clear n0_; (try clear hb); (try clear hb2); (try clear hk); (try clear hi); (try clear ho0); obtain ⟨hcz28_0, hcz28_1, hcz28_2, hfz28_0, hfz28_1, hfz28_2⟩ := zq3 BK284; obtain ⟨Ao29, co29, eo29⟩ := Kd.R_slice HO292.out; subst eo29))
    refine bodyPost_ret (results_ct rfl _ _ gb284 29 #[.int .i64 t288, .int .i64 t289, .slice Ao29 t290.length co29] (0, 0) _ rfl (by exact zp BK284 rfl) Try.underlying29 rfl (by kernel_rfl)) rfl ?_
    exact ⟨_, by first | rfl | (simp [errW_none, errW_some] <;> rfl) | (simp [*, errW_none, errW_some] <;> rfl), by (with_reducible repeat (first | apply Kd.R_alloc | apply Kd.R_drewN | apply Kd.R_drew)); exact Kd.R_mono (Kd.R_far (p := ⟨gb284, 2, none⟩) (Kd.R_far (p := ⟨gb284, 1, none⟩) (Kd.R_far (p := ⟨gb284, 0, none⟩) (Kd.R_types HO292.out BK284.out (by decide)) (fun _ hk => hk.2) (.int .i64 t288)) (fun _ hk => hk.2) (.int .i64 t289)) (fun _ hk => hk.2) (.slice Ao29 t290.length co29)) (fun _ hk => trivial), by exact zbo HB GE284⟩
   ·replace c9 := Bool.eq_false_iff.mpr c9
    subst c9
    have H1 : (some (0, 0, ([] : List Int), 2)) = some (r1, r2, r3, r4) := by rw [if_neg (show ¬ (false = true) by decide)] at H; exact H
    clear H
    have H := H1
    clear H1
    simp only [Option.some.injEq, Prod.mk.injEq] at H
    obtain ⟨rfl, rfl, rfl, rfl⟩ := H
    go_enter Try.func13, Try.ntmps13
    go_wp2_with (first | ((with_reducible refine gate_dst (N := 3) rfl ?_); refine box_event ?hg (N := 3) ?hd (cs := #[.int .i64 a0_0, .int .i64 a0_1, .slice A0_2 l0_2.length c0_2]) (t := 24) ?hr ?_; (case hd => rfl); (case hg => rfl); (case hr => first | (go_simp; done) | (go_simp; rfl)); intro gb281 hg w30 hbox hb; have GW281 := zg HB hg; have GE281 := zg HB hg; have n0_ := Aside0.mk (hbox); replace HB := zb HB hb; have BK281 := n0_; clear n0_; clear hb hbox hg) | ((with_reducible refine gate_dst (N := 4) rfl ?_); refine box_event ?hg (N := 4) ?hd (cs := #[.int .i64 a1_0, .int .i64 a1_1, .int .i64 a1_2, .int .i64 a1_3]) (t := 37) ?hr ?_; (case hd => rfl); (case hg => rfl); (case hr => first | (go_simp; done) | (go_simp; rfl)); intro gb282 hg w31 hbox hb; have GW282 := zg HB hg; have GE282 := zg HB hg; have NB281_282 := zn BK281 hg; have NB282_281 := zn' BK281 hg; have n0_ := Aside0.mk (hbox); replace BK281 := zk BK281 hb; replace HB := zb HB hb; have BK282 := n0_; clear n0_; clear hb hbox hg) | ((with_reducible refine gate_dst (N := 5) rfl ?_); refine box_event ?hg (N := 5) ?hd (cs := #[.int .i64 a2]) (t := 3) ?hr ?_; (case hd => rfl); (case hg => rfl); (case hr => first | (go_simp; done) | (go_simp; rfl)); intro gb283 hg w32 hbox hb; have GW283 := zg HB hg; have GE283 := zg HB hg; have NB281_283 := zn BK281 hg; have NB283_281 := zn' BK281 hg; have NB282_283 := zn BK282 hg; have NB283_282 := zn' BK282 hg; have n0_ := Aside0.mk (hbox); replace BK281 := zk BK281 hb; replace BK282 := zk BK282 hb; replace HB := zb HB hb; have BK283 := n0_; clear n0_; clear hb hbox hg) | ((with_reducible refine gate_dst (N := 6) rfl ?_); refine box_event ?hg (N := 6) ?hd (cs := #[.int .i64 0, .int .i64 0, .slice none 0 0]) (t := 29) ?hr ?_; (case hd => rfl); (case hg => rfl); (case hr => first | (go_simp; done) | (go_simp; rfl)); intro gb284 hg w33 hbox hb; have GW284 := zg HB hg; have GE284 := zg HB hg; have NB281_284 := zn BK281 hg; have NB284_281 := zn' BK281 hg; have NB282_284 := zn BK282 hg; have NB284_282 := zn' BK282 hg; have NB283_284 := zn BK283 hg; have NB284_283 := zn' BK283 hg; have n0_ := Aside0.mk (hbox); replace BK281 := zk BK281 hb; replace BK282 := zk BK282 hb; replace BK283 := zk BK283 hb; replace HB := zb HB hb; have BK284 := n0_; clear n0_; clear hb hbox hg; have hnb34 := NB281_282.out; have hnc34 := NB282_281.out; have hnb35 := NB281_283.out; have hnc35 := NB283_281.out; have hnb36 := NB281_284.out; have hnc36 := NB284_281.out; obtain ⟨hcz37_0, hcz37_1, hcz37_2, hfz37_0, hfz37_1, hfz37_2⟩ := zq3 BK281) | ((with_reducible refine gate_callee (f := 22) rfl ?_); refine goesL_ (some 10) rfl rfl Try.func22 (by kernel_rfl) rfl #[.agg #[.int .i64 a0_0, .int .i64 a0_1, .slice A0_2 l0_2.length c0_2]] rfl (by (try simp only [List.map_toArray, List.map_cons, List.map_nil]); first | done | rfl | (simp only [List.length_drop, List.length_take]; rfl)) ?_; (with_reducible refine (raster_Check.calls k a0_0 a0_1 _ _ l0_2 t285 _ ?side1 ?side2 A4.out).mono ?_); (case side1 => repeat (first | exact (Kd.C_below HR0_2.out HB.out) | (with_reducible refine Kd.C_alloc ?_ _) | (with_reducible refine Kd.C_drewN ?_ _) | (with_reducible refine Kd.C_drew ?_))); (case side2 => exact HC0_2.out); rintro e w38 ⟨rfl, hb⟩; refine ⟨_, rfl, ?_⟩; replace BK281 := zk BK281 hb; replace BK282 := zk BK282 hb; replace BK283 := zk BK283 hb; replace BK284 := zk BK284 hb; replace HB := zb HB hb; (try clear hb); (try clear hb2); (try clear hk); (try clear hi); have hnb39 := NB282_283.out; have hnc39 := NB283_282.out; have hnb40 := NB282_284.out; have hnc40 := NB284_282.out; obtain ⟨hcz41_0, hcz41_1, hcz41_2, hcz41_3, hfz41_0, hfz41_1, hfz41_2, hfz41_3⟩ := zq4 BK282) | ((with_reducible refine gate_callee (f := 30) rfl ?_); refine goesL_ (some 16) rfl rfl Try.func30 (by kernel_rfl) rfl #[.agg #[.int .i64 a1_0, .int .i64 a1_1, .int .i64 a1_2, .int .i64 a1_3]] rfl (by (try simp only [List.map_toArray, List.map_cons, List.map_nil]); first | done | rfl | (simp only [List.length_drop, List.length_take]; rfl)) ?_; (with_reducible refine (pixel_Valid.calls a1_0 a1_1 a1_2 a1_3 true _ A6.out).mono ?_); rintro e w42 ⟨rfl, hb⟩; refine ⟨_, rfl, ?_⟩; replace BK281 := zk BK281 hb; replace BK282 := zk BK282 hb; replace BK283 := zk BK283 hb; replace BK284 := zk BK284 hb; replace HB := zb HB hb; (try clear hb); (try clear hb2); (try clear hk); (try clear hi); have hnb43 := NB283_284.out; have hnc43 := NB284_283.out; obtain ⟨hcz44_0, hfz44_0⟩ := zq1 BK283) | (go_at_call 23; (with_reducible refine (wand_isUnit.calls a2 false _ A8.out).mono ?_); rintro e w' ⟨rfl, ⟨nd, rfl⟩⟩; (try (rw [drewN_self w42]; generalize hq_ : World.drewN w42 _ = w42; have n0_ : Aside0 (w42.heap[gb281]? = some (.cells #[.int .i64 a0_0, .int .i64 a0_1, .slice A0_2 l0_2.length c0_2] 24 (0, 0))) := ⟨by rw [← hq_]; exact (by exact zk0 BK281)⟩; have n1_ : Aside0 (w42.heap[gb282]? = some (.cells #[.int .i64 a1_0, .int .i64 a1_1, .int .i64 a1_2, .int .i64 a1_3] 37 (0, 0))) := ⟨by rw [← hq_]; exact (by exact zk0 BK282)⟩; have n2_ : Aside0 (w42.heap[gb283]? = some (.cells #[.int .i64 a2] 3 (0, 0))) := ⟨by rw [← hq_]; exact (by exact zk0 BK283)⟩; have n3_ : Aside0 (w42.heap[gb284]? = some (.cells #[.int .i64 0, .int .i64 0, .slice none 0 0] 29 (0, 0))) := ⟨by rw [← hq_]; exact (by exact zk0 BK284)⟩; have n4_ : Aside0 (Below w.heap.size w w42) := ⟨by rw [← hq_]; exact (by exact zb0 HB)⟩; clear BK281 BK282 BK283 BK284 HB hq_; have BK281 := n0_; have BK282 := n1_; have BK283 := n2_; have BK284 := n3_; have HB := n4_; clear n0_ n1_ n2_ n3_ n4_)); obtain ⟨hcz45_0, hcz45_1, hcz45_2, hfz45_0, hfz45_1, hfz45_2⟩ := zq3 BK284))
    refine bodyPost_ret (results_ct rfl _ _ gb284 29 #[.int .i64 0, .int .i64 0, .slice none 0 0] (0, 0) _ rfl (by exact zp BK284 rfl) Try.underlying29 rfl (by kernel_rfl)) rfl ?_
    exact ⟨_, by first | rfl | (simp [errW_none, errW_some] <;> rfl) | (simp [*, errW_none, errW_some] <;> rfl), by first | exact Kd.R_nil _ _ _ _ _ | exact Kd.N_nil _ _ _ _ _ | exact Kd.V_nil _ _ _ _ _ | exact Kd.Q_nil _ _ _ _ _ | exact Kd.S_nil _ _ _ _ _, by exact zbo HB GE284⟩
  ·replace c7 := Bool.eq_false_iff.mpr c7
   subst c7
   have H1 : (some (0, 0, ([] : List Int), 2)) = some (r1, r2, r3, r4) := by rw [if_neg (show ¬ (false = true) by decide)] at H; exact H
   clear H
   have H := H1
   clear H1
   simp only [Option.some.injEq, Prod.mk.injEq] at H
   obtain ⟨rfl, rfl, rfl, rfl⟩ := H
   go_enter Try.func13, Try.ntmps13
   go_wp2_with (first | ((with_reducible refine gate_dst (N := 3) rfl ?_); refine box_event ?hg (N := 3) ?hd (cs := #[.int .i64 a0_0, .int .i64 a0_1, .slice A0_2 l0_2.length c0_2]) (t := 24) ?hr ?_; (case hd => rfl); (case hg => rfl); (case hr => first | (go_simp; done) | (go_simp; rfl)); intro gb281 hg w46 hbox hb; have GW281 := zg HB hg; have GE281 := zg HB hg; have n0_ := Aside0.mk (hbox); replace HB := zb HB hb; have BK281 := n0_; clear n0_; clear hb hbox hg) | ((with_reducible refine gate_dst (N := 4) rfl ?_); refine box_event ?hg (N := 4) ?hd (cs := #[.int .i64 a1_0, .int .i64 a1_1, .int .i64 a1_2, .int .i64 a1_3]) (t := 37) ?hr ?_; (case hd => rfl); (case hg => rfl); (case hr => first | (go_simp; done) | (go_simp; rfl)); intro gb282 hg w47 hbox hb; have GW282 := zg HB hg; have GE282 := zg HB hg; have NB281_282 := zn BK281 hg; have NB282_281 := zn' BK281 hg; have n0_ := Aside0.mk (hbox); replace BK281 := zk BK281 hb; replace HB := zb HB hb; have BK282 := n0_; clear n0_; clear hb hbox hg) | ((with_reducible refine gate_dst (N := 5) rfl ?_); refine box_event ?hg (N := 5) ?hd (cs := #[.int .i64 a2]) (t := 3) ?hr ?_; (case hd => rfl); (case hg => rfl); (case hr => first | (go_simp; done) | (go_simp; rfl)); intro gb283 hg w48 hbox hb; have GW283 := zg HB hg; have GE283 := zg HB hg; have NB281_283 := zn BK281 hg; have NB283_281 := zn' BK281 hg; have NB282_283 := zn BK282 hg; have NB283_282 := zn' BK282 hg; have n0_ := Aside0.mk (hbox); replace BK281 := zk BK281 hb; replace BK282 := zk BK282 hb; replace HB := zb HB hb; have BK283 := n0_; clear n0_; clear hb hbox hg) | ((with_reducible refine gate_dst (N := 6) rfl ?_); refine box_event ?hg (N := 6) ?hd (cs := #[.int .i64 0, .int .i64 0, .slice none 0 0]) (t := 29) ?hr ?_; (case hd => rfl); (case hg => rfl); (case hr => first | (go_simp; done) | (go_simp; rfl)); intro gb284 hg w49 hbox hb; have GW284 := zg HB hg; have GE284 := zg HB hg; have NB281_284 := zn BK281 hg; have NB284_281 := zn' BK281 hg; have NB282_284 := zn BK282 hg; have NB284_282 := zn' BK282 hg; have NB283_284 := zn BK283 hg; have NB284_283 := zn' BK283 hg; have n0_ := Aside0.mk (hbox); replace BK281 := zk BK281 hb; replace BK282 := zk BK282 hb; replace BK283 := zk BK283 hb; replace HB := zb HB hb; have BK284 := n0_; clear n0_; clear hb hbox hg; have hnb50 := NB281_282.out; have hnc50 := NB282_281.out; have hnb51 := NB281_283.out; have hnc51 := NB283_281.out; have hnb52 := NB281_284.out; have hnc52 := NB284_281.out; obtain ⟨hcz53_0, hcz53_1, hcz53_2, hfz53_0, hfz53_1, hfz53_2⟩ := zq3 BK281) | ((with_reducible refine gate_callee (f := 22) rfl ?_); refine goesL_ (some 10) rfl rfl Try.func22 (by kernel_rfl) rfl #[.agg #[.int .i64 a0_0, .int .i64 a0_1, .slice A0_2 l0_2.length c0_2]] rfl (by (try simp only [List.map_toArray, List.map_cons, List.map_nil]); first | done | rfl | (simp only [List.length_drop, List.length_take]; rfl)) ?_; (with_reducible refine (raster_Check.calls k a0_0 a0_1 _ _ l0_2 t285 _ ?side1 ?side2 A4.out).mono ?_); (case side1 => repeat (first | exact (Kd.C_below HR0_2.out HB.out) | (with_reducible refine Kd.C_alloc ?_ _) | (with_reducible refine Kd.C_drewN ?_ _) | (with_reducible refine Kd.C_drew ?_))); (case side2 => exact HC0_2.out); rintro e w54 ⟨rfl, hb⟩; refine ⟨_, rfl, ?_⟩; replace BK281 := zk BK281 hb; replace BK282 := zk BK282 hb; replace BK283 := zk BK283 hb; replace BK284 := zk BK284 hb; replace HB := zb HB hb; (try clear hb); (try clear hb2); (try clear hk); (try clear hi); have hnb55 := NB282_283.out; have hnc55 := NB283_282.out; have hnb56 := NB282_284.out; have hnc56 := NB284_282.out; obtain ⟨hcz57_0, hcz57_1, hcz57_2, hcz57_3, hfz57_0, hfz57_1, hfz57_2, hfz57_3⟩ := zq4 BK282) | ((with_reducible refine gate_callee (f := 30) rfl ?_); refine goesL_ (some 16) rfl rfl Try.func30 (by kernel_rfl) rfl #[.agg #[.int .i64 a1_0, .int .i64 a1_1, .int .i64 a1_2, .int .i64 a1_3]] rfl (by (try simp only [List.map_toArray, List.map_cons, List.map_nil]); first | done | rfl | (simp only [List.length_drop, List.length_take]; rfl)) ?_; (with_reducible refine (pixel_Valid.calls a1_0 a1_1 a1_2 a1_3 false _ A6.out).mono ?_); rintro e w58 ⟨rfl, hb⟩; refine ⟨_, rfl, ?_⟩; replace BK281 := zk BK281 hb; replace BK282 := zk BK282 hb; replace BK283 := zk BK283 hb; replace BK284 := zk BK284 hb; replace HB := zb HB hb; (try clear hb); (try clear hb2); (try clear hk); (try clear hi); have hnb59 := NB284_283.out; have hnc59 := NB283_284.out; obtain ⟨hcz60_0, hcz60_1, hcz60_2, hfz60_0, hfz60_1, hfz60_2⟩ := zq3 BK284))
   refine bodyPost_ret (results_ct rfl _ _ gb284 29 #[.int .i64 0, .int .i64 0, .slice none 0 0] (0, 0) _ rfl (by exact zp BK284 rfl) Try.underlying29 rfl (by kernel_rfl)) rfl ?_
   exact ⟨_, by first | rfl | (simp [errW_none, errW_some] <;> rfl) | (simp [*, errW_none, errW_some] <;> rfl), by first | exact Kd.R_nil _ _ _ _ _ | exact Kd.N_nil _ _ _ _ _ | exact Kd.V_nil _ _ _ _ _ | exact Kd.Q_nil _ _ _ _ _ | exact Kd.S_nil _ _ _ _ _, by exact zbo HB GE284⟩
 ·rw [if_neg c5] at H
  have c5b0 : (t285 == 0) = false := beq_eq_false_iff_ne.mpr c5
  have c5b1 : (t285 != 0) = true := bne_iff_ne.mpr c5
  simp only [Option.some.injEq, Prod.mk.injEq] at H
  obtain ⟨rfl, rfl, rfl, rfl⟩ := H
  go_enter Try.func13, Try.ntmps13
  go_wp2_with (first | ((with_reducible refine gate_dst (N := 3) rfl ?_); refine box_event ?hg (N := 3) ?hd (cs := #[.int .i64 a0_0, .int .i64 a0_1, .slice A0_2 l0_2.length c0_2]) (t := 24) ?hr ?_; (case hd => rfl); (case hg => rfl); (case hr => first | (go_simp; done) | (go_simp; rfl)); intro gb281 hg w61 hbox hb; have GW281 := zg HB hg; have GE281 := zg HB hg; have n0_ := Aside0.mk (hbox); replace HB := zb HB hb; have BK281 := n0_; clear n0_; clear hb hbox hg) | ((with_reducible refine gate_dst (N := 4) rfl ?_); refine box_event ?hg (N := 4) ?hd (cs := #[.int .i64 a1_0, .int .i64 a1_1, .int .i64 a1_2, .int .i64 a1_3]) (t := 37) ?hr ?_; (case hd => rfl); (case hg => rfl); (case hr => first | (go_simp; done) | (go_simp; rfl)); intro gb282 hg w62 hbox hb; have GW282 := zg HB hg; have GE282 := zg HB hg; have NB281_282 := zn BK281 hg; have NB282_281 := zn' BK281 hg; have n0_ := Aside0.mk (hbox); replace BK281 := zk BK281 hb; replace HB := zb HB hb; have BK282 := n0_; clear n0_; clear hb hbox hg) | ((with_reducible refine gate_dst (N := 5) rfl ?_); refine box_event ?hg (N := 5) ?hd (cs := #[.int .i64 a2]) (t := 3) ?hr ?_; (case hd => rfl); (case hg => rfl); (case hr => first | (go_simp; done) | (go_simp; rfl)); intro gb283 hg w63 hbox hb; have GW283 := zg HB hg; have GE283 := zg HB hg; have NB281_283 := zn BK281 hg; have NB283_281 := zn' BK281 hg; have NB282_283 := zn BK282 hg; have NB283_282 := zn' BK282 hg; have n0_ := Aside0.mk (hbox); replace BK281 := zk BK281 hb; replace BK282 := zk BK282 hb; replace HB := zb HB hb; have BK283 := n0_; clear n0_; clear hb hbox hg) | ((with_reducible refine gate_dst (N := 6) rfl ?_); refine box_event ?hg (N := 6) ?hd (cs := #[.int .i64 0, .int .i64 0, .slice none 0 0]) (t := 29) ?hr ?_; (case hd => rfl); (case hg => rfl); (case hr => first | (go_simp; done) | (go_simp; rfl)); intro gb284 hg w64 hbox hb; have GW284 := zg HB hg; have GE284 := zg HB hg; have NB281_284 := zn BK281 hg; have NB284_281 := zn' BK281 hg; have NB282_284 := zn BK282 hg; have NB284_282 := zn' BK282 hg; have NB283_284 := zn BK283 hg; have NB284_283 := zn' BK283 hg; have n0_ := Aside0.mk (hbox); replace BK281 := zk BK281 hb; replace BK282 := zk BK282 hb; replace BK283 := zk BK283 hb; replace HB := zb HB hb; have BK284 := n0_; clear n0_; clear hb hbox hg; have hnb65 := NB281_282.out; have hnc65 := NB282_281.out; have hnb66 := NB281_283.out; have hnc66 := NB283_281.out; have hnb67 := NB281_284.out; have hnc67 := NB284_281.out; obtain ⟨hcz68_0, hcz68_1, hcz68_2, hfz68_0, hfz68_1, hfz68_2⟩ := zq3 BK281) | ((with_reducible refine gate_callee (f := 22) rfl ?_); refine goesL_ (some 10) rfl rfl Try.func22 (by kernel_rfl) rfl #[.agg #[.int .i64 a0_0, .int .i64 a0_1, .slice A0_2 l0_2.length c0_2]] rfl (by (try simp only [List.map_toArray, List.map_cons, List.map_nil]); first | done | rfl | (simp only [List.length_drop, List.length_take]; rfl)) ?_; (with_reducible refine (raster_Check.calls k a0_0 a0_1 _ _ l0_2 t285 _ ?side1 ?side2 A4.out).mono ?_); (case side1 => repeat (first | exact (Kd.C_below HR0_2.out HB.out) | (with_reducible refine Kd.C_alloc ?_ _) | (with_reducible refine Kd.C_drewN ?_ _) | (with_reducible refine Kd.C_drew ?_))); (case side2 => exact HC0_2.out); rintro e w69 ⟨rfl, hb⟩; refine ⟨_, rfl, ?_⟩; replace BK281 := zk BK281 hb; replace BK282 := zk BK282 hb; replace BK283 := zk BK283 hb; replace BK284 := zk BK284 hb; replace HB := zb HB hb; (try clear hb); (try clear hb2); (try clear hk); (try clear hi); have hnb70 := NB284_282.out; have hnc70 := NB282_284.out; have hnb71 := NB284_283.out; have hnc71 := NB283_284.out; obtain ⟨hcz72_0, hcz72_1, hcz72_2, hfz72_0, hfz72_1, hfz72_2⟩ := zq3 BK284))
  refine bodyPost_ret (results_ct rfl _ _ gb284 29 #[.int .i64 0, .int .i64 0, .slice none 0 0] (0, 0) _ rfl (by exact zp BK284 rfl) Try.underlying29 rfl (by kernel_rfl)) rfl ?_
  exact ⟨_, by first | rfl | (simp [errW_none, errW_some] <;> rfl) | (simp [*, errW_none, errW_some] <;> rfl), by first | exact Kd.R_nil _ _ _ _ _ | exact Kd.N_nil _ _ _ _ _ | exact Kd.V_nil _ _ _ _ _ | exact Kd.Q_nil _ _ _ _ _ | exact Kd.S_nil _ _ _ _ _, by exact zbo HB GE284⟩

/-! ### num_Floor: function 50 -/
def num_Floor.f (a0 : Int) (a1 : Int) : Option (Int) := if a1 = 0 then (some 0) else (if a1 = (-1) then (if a0 = (-9223372036854775808) then (some 9223372036854775807) else (some (wrap64 (-a0)))) else (if (Int.tmod a0 a1) = 0 then (some (wrap64 (Int.tdiv a0 a1))) else (if ((decide (a0 < 0)) != (decide (a1 < 0))) = true then (some (wrap64 ((wrap64 (Int.tdiv a0 a1)) - 1))) else (some (wrap64 (Int.tdiv a0 a1))))))
set_option maxHeartbeats 8000000 in
set_option maxRecDepth 100000 in
theorem num_Floor.calls (a0 : Int) (a1 : Int) (r : Int) (w : World) (h : num_Floor.f a0 a1 = some r) :
  Calls Try.prog 50 #[.int .i64 a0, .int .i64 a1] w fun e w' => e = .returned (.int .i64 r) ∧ Drawn0 w w' := by
 have H : (if a1 = 0 then (some 0) else (if a1 = (-1) then (if a0 = (-9223372036854775808) then (some 9223372036854775807) else (some (wrap64 (-a0)))) else (if (Int.tmod a0 a1) = 0 then (some (wrap64 (Int.tdiv a0 a1))) else (if ((decide (a0 < 0)) != (decide (a1 < 0))) = true then (some (wrap64 ((wrap64 (Int.tdiv a0 a1)) - 1))) else (some (wrap64 (Int.tdiv a0 a1))))))) = some r := h
 clear h
 by_cases c3 : a1 = 0
 ·rw [if_pos c3] at H
  have c3b0 : (a1 == 0) = true := beq_iff_eq.mpr c3
  have c3b1 : (a1 != 0) = false := bne_eq_false_iff_eq.mpr c3
  clear c3
  obtain rfl := Option.some.inj H
  go_enter Try.func50, Try.ntmps50
  go_wp2
  go_ret
  exact ⟨by first | rfl | (simp; done) | (simp [*]; done), by repeat (first | exact Drawn0.refl _ | apply Drawn0.step)⟩
 ·rw [if_neg c3] at H
  have c3b0 : (a1 == 0) = false := beq_eq_false_iff_ne.mpr c3
  have c3b1 : (a1 != 0) = true := bne_iff_ne.mpr c3
  by_cases c4 : a1 = (-1)
  ·rw [if_pos c4] at H
   have c4b0 : (a1 == (-1)) = true := beq_iff_eq.mpr c4
   have c4b1 : (a1 != (-1)) = false := bne_eq_false_iff_eq.mpr c4
   clear c4
   by_cases c5 : a0 = (-9223372036854775808)
   ·rw [if_pos c5] at H
    have c5b0 : (a0 == (-9223372036854775808)) = true := beq_iff_eq.mpr c5
    have c5b1 : (a0 != (-9223372036854775808)) = false := bne_eq_false_iff_eq.mpr c5
    clear c5
    obtain rfl := Option.some.inj H
    go_enter Try.func50, Try.ntmps50
    go_wp2
    go_ret
    exact ⟨by first | rfl | (simp; done) | (simp [*]; done), by repeat (first | exact Drawn0.refl _ | apply Drawn0.step)⟩
   ·rw [if_neg c5] at H
    have c5b0 : (a0 == (-9223372036854775808)) = false := beq_eq_false_iff_ne.mpr c5
    have c5b1 : (a0 != (-9223372036854775808)) = true := bne_iff_ne.mpr c5
    obtain rfl := Option.some.inj H
    go_enter Try.func50, Try.ntmps50
    go_wp2
    go_ret
    exact ⟨by first | rfl | (simp; done) | (simp [*]; done), by repeat (first | exact Drawn0.refl _ | apply Drawn0.step)⟩
  ·rw [if_neg c4] at H
   have c4b0 : (a1 == (-1)) = false := beq_eq_false_iff_ne.mpr c4
   have c4b1 : (a1 != (-1)) = true := bne_iff_ne.mpr c4
   by_cases c6 : (Int.tmod a0 a1) = 0
   ·rw [if_pos c6] at H
    have c6b0 : ((Int.tmod a0 a1) == 0) = true := beq_iff_eq.mpr c6
    have c6b1 : ((Int.tmod a0 a1) != 0) = false := bne_eq_false_iff_eq.mpr c6
    clear c6
    obtain rfl := Option.some.inj H
    go_enter Try.func50, Try.ntmps50
    go_wp2
    go_ret
    exact ⟨by first | rfl | (simp; done) | (simp [*]; done), by repeat (first | exact Drawn0.refl _ | apply Drawn0.step)⟩
   ·rw [if_neg c6] at H
    have c6b0 : ((Int.tmod a0 a1) == 0) = false := beq_eq_false_iff_ne.mpr c6
    have c6b1 : ((Int.tmod a0 a1) != 0) = true := bne_iff_ne.mpr c6
    by_cases c7 : ((decide (a0 < 0)) != (decide (a1 < 0))) = true
    ·rw [if_pos c7] at H
     have c7b0 : ((decide (a0 < 0)) != (decide (a1 < 0))) = true := c7
     (try (have c7b1 : decide ((decide (a0 < 0)) = (decide (a1 < 0))) = false := by simpa using c7))
     (try (have c7b2 : ((decide (a0 < 0)) == (decide (a1 < 0))) = false := by simpa using c7))
     (try (have c7b3 : ¬ ((decide (a0 < 0)) = (decide (a1 < 0))) := by simpa using c7))
     clear c7
     obtain rfl := Option.some.inj H
     go_enter Try.func50, Try.ntmps50
     go_wp2
     go_ret
     exact ⟨by first | rfl | (simp; done) | (simp [*]; done), by repeat (first | exact Drawn0.refl _ | apply Drawn0.step)⟩
    ·rw [if_neg c7] at H
     have c7b0 : ((decide (a0 < 0)) != (decide (a1 < 0))) = false := by simpa using c7
     (try (have c7b1 : decide ((decide (a0 < 0)) = (decide (a1 < 0))) = true := by simpa using c7))
     (try (have c7b2 : ((decide (a0 < 0)) == (decide (a1 < 0))) = true := by simpa using c7))
     clear c7
     obtain rfl := Option.some.inj H
     go_enter Try.func50, Try.ntmps50
     go_wp2
     go_ret
     exact ⟨by first | rfl | (simp; done) | (simp [*]; done), by repeat (first | exact Drawn0.refl _ | apply Drawn0.step)⟩

/-! ### num_Div: function 36 -/
def num_Div.j0 : Nat → Int → Int → Int → Bool → Option (Int)
 | 0, _, _, _, _ => none
 | k + 1, x0, x1, x5, x15 => if x15 = true then (some x5) else (if x1 > 0 then (if (wrap64 (x0 - (wrap64 (x5 * x1)))) ≥ (wrap64 (x1 - (wrap64 (x0 - (wrap64 (x5 * x1)))))) then (some (wrap64 (x5 + 1))) else (if x1 < 0 then (if (wrap64 (x0 - (wrap64 (x5 * x1)))) ≤ (wrap64 (x1 - (wrap64 (x0 - (wrap64 (x5 * x1)))))) then (some (wrap64 (x5 + 1))) else (some x5)) else (some x5))) else (if x1 < 0 then (if (wrap64 (x0 - (wrap64 (x5 * x1)))) ≤ (wrap64 (x1 - (wrap64 (x0 - (wrap64 (x5 * x1)))))) then (some (wrap64 (x5 + 1))) else (some x5)) else (some x5)))
def num_Div.f (k : Nat) (a0 : Int) (a1 : Int) : Option (Int) := (num_Floor.f a0 a1).bind fun t293 => (if a1 = 0 then (num_Div.j0 k a0 a1 t293 true) else (num_Div.j0 k a0 a1 t293 (a1 == (-1))))
theorem num_Div.mono_l : ∀ k, (∀ y0 y1 y2 y3, LeO (num_Div.j0 k y0 y1 y2 y3) (num_Div.j0 (k + 1) y0 y1 y2 y3))
 | 0 => fun _ _ _ _ r h => by simp [num_Div.j0] at h
 | k + 1 => by
  have ih0 := num_Div.mono_l k
  ·intro y0 y1 y2 y3
   unfold num_Div.j0
   repeat' first
   | (with_reducible exact ih0 _ _ _ _)
   | (with_reducible exact LeO.refl _)
   | (with_reducible exact LeO.none _)
   | (with_reducible refine LeO.ite ?_ ?_)
   | (with_reducible refine LeO.bind ?_ (fun _ => ?_))
   | exact ih0 _ _ _ _
   | exact LeO.none _
   | refine LeO.ite ?_ ?_
   | refine LeO.bind ?_ (fun _ => ?_)
theorem num_Div.mono : ∀ a0 a1 k, LeO (num_Div.f k a0 a1) (num_Div.f (k + 1) a0 a1) := by
 intro a0 a1 k
 have ih0 := num_Div.mono_l k
 unfold num_Div.f
 repeat' first
   | (with_reducible exact ih0 _ _ _ _)
   | (with_reducible exact LeO.refl _)
   | (with_reducible exact LeO.none _)
   | (with_reducible refine LeO.ite ?_ ?_)
   | (with_reducible refine LeO.bind ?_ (fun _ => ?_))
   | exact ih0 _ _ _ _
   | exact LeO.none _
   | refine LeO.ite ?_ ?_
   | refine LeO.bind ?_ (fun _ => ?_)
set_option maxHeartbeats 8000000 in
set_option maxRecDepth 100000 in
theorem num_Div.calls (k : Nat) (a0 : Int) (a1 : Int) (r : Int) (w : World) (h : num_Div.f k a0 a1 = some r) :
  Calls Try.prog 36 #[.int .i64 a0, .int .i64 a1] w fun e w' => e = .returned (.int .i64 r) ∧ Drawn0 w w' := by
 have H : ((num_Floor.f a0 a1).bind fun t293 => (if a1 = 0 then (num_Div.j0 k a0 a1 t293 true) else (num_Div.j0 k a0 a1 t293 (a1 == (-1))))) = some r := h
 clear h
 replace H := Option.bind_eq_some_iff.mp H
 obtain ⟨t293, A30, H⟩ := H
 replace H : (if a1 = 0 then (num_Div.j0 k a0 a1 t293 true) else (num_Div.j0 k a0 a1 t293 (a1 == (-1)))) = some r := H
 have A3 := Aside0.mk A30
 clear A30
 have HC4 := Aside0.mk H
 clear H
 go_enter Try.func36, Try.ntmps36
 go_upto_region 2 with (first | ((with_reducible refine gate_callee (f := 50) rfl ?_); refine goesL_ (some 9) rfl rfl Try.func50 (by kernel_rfl) rfl #[.int .i64 a0, .int .i64 a1] rfl (by (try simp only [List.map_toArray, List.map_cons, List.map_nil]); first | done | rfl | (simp only [List.length_drop, List.length_take]; rfl)) ?_; (with_reducible refine (num_Floor.calls a0 a1 t293 _ A3.out).mono ?_); rintro e w' ⟨rfl, ⟨nd, rfl⟩⟩; refine ⟨_, rfl, ?_⟩))
 (try simp only [Act.put, sA, sB, sC])
 go_cut [15] (fun v15 wc => ∃ (kq : Nat) (x15_3 : Bool), v15 = .bool x15_3 ∧ Aside0 (num_Div.j0 kq a0 a1 t293 x15_3 = some r) ∧ Aside0 (kq ≤ k) ∧ Drawn0 w wc)
 case first =>
  have H := HC4.out
  clear HC4
  by_cases c5 : a1 = 0
  ·rw [if_pos c5] at H
   have c5b0 : (a1 == 0) = true := beq_iff_eq.mpr c5
   have c5b1 : (a1 != 0) = false := bne_eq_false_iff_eq.mpr c5
   clear c5
   (first | rw [c5b0] | (simp only [i64_w, i32_w]; rw [c5b0]) | skip)
   have H' := Aside0.mk H
   clear H
   go_wp2
   go_meet
   case rel => exact ⟨_, (true), (by first | rfl | (simp; done) | (simp [*]; done)), H', ⟨by first | omega | exact Nat.le_refl _⟩, by repeat (first | exact Drawn0.refl _ | apply Drawn0.step)⟩
  ·rw [if_neg c5] at H
   have c5b0 : (a1 == 0) = false := beq_eq_false_iff_ne.mpr c5
   have c5b1 : (a1 != 0) = true := bne_iff_ne.mpr c5
   (first | rw [c5b0] | (simp only [i64_w, i32_w]; rw [c5b0]) | skip)
   have H' := Aside0.mk H
   clear H
   go_wp2
   go_meet
   case rel => exact ⟨_, ((a1 == (-1))), (by first | rfl | (simp; done) | (simp [*]; done)), H', ⟨by first | omega | exact Nat.le_refl _⟩, by repeat (first | exact Drawn0.refl _ | apply Drawn0.step)⟩
 case rest =>
  clear HC4
  try clear p2
  try clear c3
  try clear c5
  try clear c5b0
  try clear c5b1
  obtain ⟨kq, x15_3, rfl, HA, HJ3, ⟨mc3, rfl⟩⟩ := hcut
  cases kq with
  | zero => exact absurd HA.out (by simp [num_Div.j0])
  | succ kj3 =>
   have H := HA.out
   clear HA
   simp only [num_Div.j0] at H
   by_cases c6 : x15_3 = true
   ·subst c6
    have H1 : (some t293) = some r := by rw [if_pos rfl] at H; exact H
    clear H
    have H := H1
    clear H1
    obtain rfl := Option.some.inj H
    go_wp2
    go_ret
    exact ⟨by first | rfl | (simp; done) | (simp [*]; done), by repeat (first | exact Drawn0.refl _ | apply Drawn0.step)⟩
   ·replace c6 := Bool.eq_false_iff.mpr c6
    subst c6
    have H1 : (if a1 > 0 then (if (wrap64 (a0 - (wrap64 (t293 * a1)))) ≥ (wrap64 (a1 - (wrap64 (a0 - (wrap64 (t293 * a1)))))) then (some (wrap64 (t293 + 1))) else (if a1 < 0 then (if (wrap64 (a0 - (wrap64 (t293 * a1)))) ≤ (wrap64 (a1 - (wrap64 (a0 - (wrap64 (t293 * a1)))))) then (some (wrap64 (t293 + 1))) else (some t293)) else (some t293))) else (if a1 < 0 then (if (wrap64 (a0 - (wrap64 (t293 * a1)))) ≤ (wrap64 (a1 - (wrap64 (a0 - (wrap64 (t293 * a1)))))) then (some (wrap64 (t293 + 1))) else (some t293)) else (some t293))) = some r := by rw [if_neg (show ¬ (false = true) by decide)] at H; exact H
    clear H
    have H := H1
    clear H1
    by_cases c7 : a1 > 0
    ·rw [if_pos c7] at H
     have c7b0 : decide (0 < a1) = true := decide_eq_true c7
     clear c7
     by_cases c8 : (wrap64 (a0 - (wrap64 (t293 * a1)))) ≥ (wrap64 (a1 - (wrap64 (a0 - (wrap64 (t293 * a1))))))
     ·rw [if_pos c8] at H
      have c8b0 : decide ((wrap64 (a1 - (wrap64 (a0 - (wrap64 (t293 * a1)))))) ≤ (wrap64 (a0 - (wrap64 (t293 * a1))))) = true := decide_eq_true c8
      clear c8
      obtain rfl := Option.some.inj H
      go_wp2
      go_ret
      exact ⟨by first | rfl | (simp; done) | (simp [*]; done), by repeat (first | exact Drawn0.refl _ | apply Drawn0.step)⟩
     ·rw [if_neg c8] at H
      have c8b0 : decide ((wrap64 (a1 - (wrap64 (a0 - (wrap64 (t293 * a1)))))) ≤ (wrap64 (a0 - (wrap64 (t293 * a1))))) = false := decide_eq_false c8
      clear c8
      by_cases c9 : a1 < 0
      ·rw [if_pos c9] at H
       have c9b0 : decide (a1 < 0) = true := decide_eq_true c9
       clear c9
       by_cases c10 : (wrap64 (a0 - (wrap64 (t293 * a1)))) ≤ (wrap64 (a1 - (wrap64 (a0 - (wrap64 (t293 * a1))))))
       ·rw [if_pos c10] at H
        have c10b0 : decide ((wrap64 (a0 - (wrap64 (t293 * a1)))) ≤ (wrap64 (a1 - (wrap64 (a0 - (wrap64 (t293 * a1))))))) = true := decide_eq_true c10
        clear c10
        obtain rfl := Option.some.inj H
        go_wp2
        go_ret
        exact ⟨by first | rfl | (simp; done) | (simp [*]; done), by repeat (first | exact Drawn0.refl _ | apply Drawn0.step)⟩
       ·rw [if_neg c10] at H
        have c10b0 : decide ((wrap64 (a0 - (wrap64 (t293 * a1)))) ≤ (wrap64 (a1 - (wrap64 (a0 - (wrap64 (t293 * a1))))))) = false := decide_eq_false c10
        clear c10
        obtain rfl := Option.some.inj H
        go_wp2
        go_ret
        exact ⟨by first | rfl | (simp; done) | (simp [*]; done), by repeat (first | exact Drawn0.refl _ | apply Drawn0.step)⟩
      ·rw [if_neg c9] at H
       have c9b0 : decide (a1 < 0) = false := decide_eq_false c9
       clear c9
       obtain rfl := Option.some.inj H
       go_wp2
       go_ret
       exact ⟨by first | rfl | (simp; done) | (simp [*]; done), by repeat (first | exact Drawn0.refl _ | apply Drawn0.step)⟩
    ·rw [if_neg c7] at H
     have c7b0 : decide (0 < a1) = false := decide_eq_false c7
     clear c7
     by_cases c11 : a1 < 0
     ·rw [if_pos c11] at H
      have c11b0 : decide (a1 < 0) = true := decide_eq_true c11
      clear c11
      by_cases c12 : (wrap64 (a0 - (wrap64 (t293 * a1)))) ≤ (wrap64 (a1 - (wrap64 (a0 - (wrap64 (t293 * a1))))))
      ·rw [if_pos c12] at H
       have c12b0 : decide ((wrap64 (a0 - (wrap64 (t293 * a1)))) ≤ (wrap64 (a1 - (wrap64 (a0 - (wrap64 (t293 * a1))))))) = true := decide_eq_true c12
       clear c12
       obtain rfl := Option.some.inj H
       go_wp2
       go_ret
       exact ⟨by first | rfl | (simp; done) | (simp [*]; done), by repeat (first | exact Drawn0.refl _ | apply Drawn0.step)⟩
      ·rw [if_neg c12] at H
       have c12b0 : decide ((wrap64 (a0 - (wrap64 (t293 * a1)))) ≤ (wrap64 (a1 - (wrap64 (a0 - (wrap64 (t293 * a1))))))) = false := decide_eq_false c12
       clear c12
       obtain rfl := Option.some.inj H
       go_wp2
       go_ret
       exact ⟨by first | rfl | (simp; done) | (simp [*]; done), by repeat (first | exact Drawn0.refl _ | apply Drawn0.step)⟩
     ·rw [if_neg c11] at H
      have c11b0 : decide (a1 < 0) = false := decide_eq_false c11
      clear c11
      obtain rfl := Option.some.inj H
      go_wp2
      go_ret
      exact ⟨by first | rfl | (simp; done) | (simp [*]; done), by repeat (first | exact Drawn0.refl _ | apply Drawn0.step)⟩

/-! ### wand_Soft_1: function 35 -/
def wand_Soft_1.j0 : Nat → Int → Bool → Int → Int → Option (Int)
 | 0, _, _, _, _ => none
 | k + 1, x6, x17, x296000, x297000 => if x17 = true then ((wand_chosen.f (decide (x6 ≤ x296000))).bind fun t299 => (some t299)) else ((num_Div.f k (wrap64 (65535 * (wrap64 (x297000 - x6)))) (wrap64 (x297000 - x296000))).bind fun t300 => (some t300))
def wand_Soft_1.f (k : Nat) (a0_0 : Int) (a0_1 : Int) (a0_2 : Int) (a0_3 : Int) (a1_0 : Int) (a1_1 : Int) (a1_2 : Int) (a1_3 : Int) (a2_0 : Int) (a3_0 : Int) : Option (Int) := (pixel_Dist.f a0_0 a0_1 a0_2 a0_3 a1_0 a1_1 a1_2 a1_3).bind fun t298 => (if t298 ≤ a2_0 then (wand_Soft_1.j0 k t298 true a2_0 a3_0) else (wand_Soft_1.j0 k t298 (decide (t298 ≥ a3_0)) a2_0 a3_0))
theorem wand_Soft_1.mono_l : ∀ k, (∀ y0 y1 y2 y3, LeO (wand_Soft_1.j0 k y0 y1 y2 y3) (wand_Soft_1.j0 (k + 1) y0 y1 y2 y3))
 | 0 => fun _ _ _ _ r h => by simp [wand_Soft_1.j0] at h
 | k + 1 => by
  have ih0 := wand_Soft_1.mono_l k
  ·intro y0 y1 y2 y3
   unfold wand_Soft_1.j0
   repeat' first
   | (with_reducible exact ih0 _ _ _ _)
   | (with_reducible exact num_Div.mono _ _ _)
   | (with_reducible exact LeO.refl _)
   | (with_reducible exact LeO.none _)
   | (with_reducible refine LeO.ite ?_ ?_)
   | (with_reducible refine LeO.bind ?_ (fun _ => ?_))
   | exact ih0 _ _ _ _
   | exact num_Div.mono _ _ _
   | exact LeO.none _
   | refine LeO.ite ?_ ?_
   | refine LeO.bind ?_ (fun _ => ?_)
theorem wand_Soft_1.mono : ∀ a0 a1 a2 a3 a4 a5 a6 a7 a8 a9 k, LeO (wand_Soft_1.f k a0 a1 a2 a3 a4 a5 a6 a7 a8 a9) (wand_Soft_1.f (k + 1) a0 a1 a2 a3 a4 a5 a6 a7 a8 a9) := by
 intro a0 a1 a2 a3 a4 a5 a6 a7 a8 a9 k
 have ih0 := wand_Soft_1.mono_l k
 unfold wand_Soft_1.f
 repeat' first
   | (with_reducible exact ih0 _ _ _ _)
   | (with_reducible exact num_Div.mono _ _ _)
   | (with_reducible exact LeO.refl _)
   | (with_reducible exact LeO.none _)
   | (with_reducible refine LeO.ite ?_ ?_)
   | (with_reducible refine LeO.bind ?_ (fun _ => ?_))
   | exact ih0 _ _ _ _
   | exact num_Div.mono _ _ _
   | exact LeO.none _
   | refine LeO.ite ?_ ?_
   | refine LeO.bind ?_ (fun _ => ?_)
set_option maxHeartbeats 8000000 in
set_option maxRecDepth 100000 in
theorem wand_Soft_1.calls (k : Nat) (a0_0 : Int) (a0_1 : Int) (a0_2 : Int) (a0_3 : Int) (gc1_0 : Nat) (a1_0 : Int) (a1_1 : Int) (a1_2 : Int) (a1_3 : Int) (gc2_0 : Nat) (a2_0 : Int) (gc3_0 : Nat) (a3_0 : Int) (r : Int) (w : World) (hp1_0 : w.heap[gc1_0]? = some (.cells #[.int .i64 a1_0, .int .i64 a1_1, .int .i64 a1_2, .int .i64 a1_3] 37 (0, 0))) (hp2_0 : w.heap[gc2_0]? = some (.cells #[.int .i64 a2_0] 3 (0, 0))) (hp3_0 : w.heap[gc3_0]? = some (.cells #[.int .i64 a3_0] 3 (0, 0))) (h : wand_Soft_1.f k a0_0 a0_1 a0_2 a0_3 a1_0 a1_1 a1_2 a1_3 a2_0 a3_0 = some r) :
  Calls Try.prog 35 #[.agg #[.int .i64 a0_0, .int .i64 a0_1, .int .i64 a0_2, .int .i64 a0_3], .pointer (some ⟨gc1_0, 0, none⟩), .pointer (some ⟨gc2_0, 0, none⟩), .pointer (some ⟨gc3_0, 0, none⟩)] w fun e w' => e = .returned (.int .i64 r) ∧ Below w.heap.size w w' := by
 have hu37 := Try.underlying37
 have BK294 := Aside0.mk hp1_0
 have GL294 := Aside0.mk (show gc1_0 < w.heap.size from blk_lt hp1_0)
 clear hp1_0
 have BK295 := Aside0.mk hp2_0
 have GL295 := Aside0.mk (show gc2_0 < w.heap.size from blk_lt hp2_0)
 clear hp2_0
 have BK296 := Aside0.mk hp3_0
 have GL296 := Aside0.mk (show gc3_0 < w.heap.size from blk_lt hp3_0)
 clear hp3_0
 have HB := Aside0.mk (Below.refl w.heap.size w)
 have H : ((pixel_Dist.f a0_0 a0_1 a0_2 a0_3 a1_0 a1_1 a1_2 a1_3).bind fun t298 => (if t298 ≤ a2_0 then (wand_Soft_1.j0 k t298 true a2_0 a3_0) else (wand_Soft_1.j0 k t298 (decide (t298 ≥ a3_0)) a2_0 a3_0))) = some r := h
 clear h
 replace H := Option.bind_eq_some_iff.mp H
 obtain ⟨t298, A50, H⟩ := H
 replace H : (if t298 ≤ a2_0 then (wand_Soft_1.j0 k t298 true a2_0 a3_0) else (wand_Soft_1.j0 k t298 (decide (t298 ≥ a3_0)) a2_0 a3_0)) = some r := H
 have A5 := Aside0.mk A50
 clear A50
 have HC6 := Aside0.mk H
 clear H
 go_enter Try.func35, Try.ntmps35
 go_upto_region 2 with (first | ((with_reducible refine gate_dst (N := 4) rfl ?_); refine box_event ?hg (N := 4) ?hd (cs := #[.int .i64 a0_0, .int .i64 a0_1, .int .i64 a0_2, .int .i64 a0_3]) (t := 37) ?hr ?_; (case hd => rfl); (case hg => rfl); (case hr => first | (go_simp; done) | (go_simp; rfl)); intro gb297 hg w7 hbox hb; have GW297 := zg HB hg; have GE297 := zg HB hg; have NB294_297 := zn BK294 hg; have NB297_294 := zn' BK294 hg; have NB295_297 := zn BK295 hg; have NB297_295 := zn' BK295 hg; have NB296_297 := zn BK296 hg; have NB297_296 := zn' BK296 hg; have n0_ := Aside0.mk (hbox); replace BK294 := zk BK294 hb; replace BK295 := zk BK295 hb; replace BK296 := zk BK296 hb; replace HB := zb HB hb; have BK297 := n0_; clear n0_; clear hb hbox hg; obtain ⟨hcz8_0, hcz8_1, hcz8_2, hcz8_3, hfz8_0, hfz8_1, hfz8_2, hfz8_3⟩ := zq4 BK297; obtain ⟨hcz9_0, hcz9_1, hcz9_2, hcz9_3, hfz9_0, hfz9_1, hfz9_2, hfz9_3⟩ := zq4 BK294) | ((with_reducible refine gate_callee (f := 20) rfl ?_); refine goesL_ (some 9) rfl rfl Try.func20 (by kernel_rfl) rfl #[.agg #[.int .i64 a0_0, .int .i64 a0_1, .int .i64 a0_2, .int .i64 a0_3], .agg #[.int .i64 a1_0, .int .i64 a1_1, .int .i64 a1_2, .int .i64 a1_3]] rfl (by (try simp only [List.map_toArray, List.map_cons, List.map_nil]); first | done | rfl | (simp only [List.length_drop, List.length_take]; rfl)) ?_; (with_reducible refine (pixel_Dist.calls a0_0 a0_1 a0_2 a0_3 a1_0 a1_1 a1_2 a1_3 t298 _ A5.out).mono ?_); rintro e w10 ⟨rfl, hb⟩; refine ⟨_, rfl, ?_⟩; replace BK294 := zk BK294 hb; replace BK295 := zk BK295 hb; replace BK296 := zk BK296 hb; replace BK297 := zk BK297 hb; replace HB := zb HB hb; (try clear hb); (try clear hb2); (try clear hk); (try clear hi)))
 (try simp only [Act.put, sA, sB, sC])
 go_cut [17] (fun v17 wc => ∃ (kq : Nat) (x17_5 : Bool), v17 = .bool x17_5 ∧ Aside0 (wand_Soft_1.j0 kq t298 x17_5 a2_0 a3_0 = some r) ∧ Aside0 (kq ≤ k) ∧ Aside0 (wc.heap[gc1_0]? = some (.cells #[.int .i64 a1_0, .int .i64 a1_1, .int .i64 a1_2, .int .i64 a1_3] 37 (0, 0))) ∧ Aside0 (wc.heap[gc2_0]? = some (.cells #[.int .i64 a2_0] 3 (0, 0))) ∧ Aside0 (wc.heap[gc3_0]? = some (.cells #[.int .i64 a3_0] 3 (0, 0))) ∧ Aside0 (wc.heap[gb297]? = some (.cells #[.int .i64 a0_0, .int .i64 a0_1, .int .i64 a0_2, .int .i64 a0_3] 37 (0, 0))) ∧ Aside0 (Below w.heap.size w wc))
 case first =>
  have H := HC6.out
  clear HC6
  by_cases c11 : t298 ≤ a2_0
  ·rw [if_pos c11] at H
   have c11b0 : decide (t298 ≤ a2_0) = true := decide_eq_true c11
   clear c11
   (first | rw [c11b0] | (simp only [i64_w, i32_w]; rw [c11b0]) | skip)
   have H' := Aside0.mk H
   clear H
   obtain ⟨hcz12_0, hfz12_0⟩ := zq1 BK295
   go_wp2
   go_meet
   case rel => exact ⟨_, (true), (by first | rfl | (simp; done) | (simp [*]; done)), H', ⟨by first | omega | exact Nat.le_refl _⟩, ⟨by exact zk0 BK294⟩, ⟨by exact zk0 BK295⟩, ⟨by exact zk0 BK296⟩, ⟨by exact zk0 BK297⟩, ⟨by exact zb0 HB⟩⟩
  ·rw [if_neg c11] at H
   have c11b0 : decide (t298 ≤ a2_0) = false := decide_eq_false c11
   clear c11
   (first | rw [c11b0] | (simp only [i64_w, i32_w]; rw [c11b0]) | skip)
   have H' := Aside0.mk H
   clear H
   obtain ⟨hcz13_0, hfz13_0⟩ := zq1 BK295
   obtain ⟨hcz14_0, hfz14_0⟩ := zq1 BK296
   go_wp2
   go_meet
   case rel => exact ⟨_, (decide (t298 ≥ a3_0)), (by first | rfl | (simp; done) | (simp [*]; done)), H', ⟨by first | omega | exact Nat.le_refl _⟩, ⟨by exact zk0 BK294⟩, ⟨by exact zk0 BK295⟩, ⟨by exact zk0 BK296⟩, ⟨by exact zk0 BK297⟩, ⟨by exact zb0 HB⟩⟩
 case rest =>
  clear HC6
  try clear c1
  try clear p1
  try clear q1
  try clear c2
  try clear p2
  try clear c3
  try clear p3
  try clear q4
  try clear c11
  try clear c11b0
  try clear hcz12_0
  try clear hcz13_0
  try clear hcz14_0
  try clear hcz8_0
  try clear hcz8_1
  try clear hcz8_2
  try clear hcz8_3
  try clear hcz9_0
  try clear hcz9_1
  try clear hcz9_2
  try clear hcz9_3
  try clear hfz12_0
  try clear hfz13_0
  try clear hfz14_0
  try clear hfz8_0
  try clear hfz8_1
  try clear hfz8_2
  try clear hfz8_3
  try clear hfz9_0
  try clear hfz9_1
  try clear hfz9_2
  try clear hfz9_3
  obtain ⟨kq, x17_5, rfl, HA, HJ5, BK294, BK295, BK296, BK297, HB⟩ := hcut
  cases kq with
  | zero => exact absurd HA.out (by simp [wand_Soft_1.j0])
  | succ kj5 =>
   have H := HA.out
   clear HA
   simp only [wand_Soft_1.j0] at H
   by_cases c15 : x17_5 = true
   ·subst c15
    have H1 : ((wand_chosen.f (decide (t298 ≤ a2_0))).bind fun t299 => (some t299)) = some r := by rw [if_pos rfl] at H; exact H
    clear H
    have H := H1
    clear H1
    replace H := Option.bind_eq_some_iff.mp H
    obtain ⟨t299, A160, H⟩ := H
    replace H : (some t299) = some r := H
    have A16 := Aside0.mk A160
    clear A160
    obtain rfl := Option.some.inj H
    obtain ⟨hcz17_0, hfz17_0⟩ := zq1 BK295
    go_wp2_with (first | ((with_reducible refine gate_callee (f := 33) rfl ?_); refine goesL_ (some 21) rfl rfl Try.func33 (by kernel_rfl) rfl #[.bool (decide (t298 ≤ a2_0))] rfl (by (try simp only [List.map_toArray, List.map_cons, List.map_nil]); first | done | rfl | (simp only [List.length_drop, List.length_take]; rfl)) ?_; (with_reducible refine (wand_chosen.calls (decide (t298 ≤ a2_0)) t299 _ A16.out).mono ?_); rintro e w' ⟨rfl, ⟨nd, rfl⟩⟩; refine ⟨_, rfl, ?_⟩))
    go_ret
    exact ⟨by first | rfl | (simp [errW_none, errW_some] <;> rfl) | (simp [*, errW_none, errW_some] <;> rfl), by exact zb0 HB⟩
   ·replace c15 := Bool.eq_false_iff.mpr c15
    subst c15
    have H1 : ((num_Div.f kj5 (wrap64 (65535 * (wrap64 (a3_0 - t298)))) (wrap64 (a3_0 - a2_0))).bind fun t300 => (some t300)) = some r := by rw [if_neg (show ¬ (false = true) by decide)] at H; exact H
    clear H
    have H := H1
    clear H1
    replace H := Option.bind_eq_some_iff.mp H
    obtain ⟨t300, A180, H⟩ := H
    replace H : (some t300) = some r := H
    have A18 := Aside0.mk A180
    clear A180
    obtain rfl := Option.some.inj H
    obtain ⟨hcz19_0, hfz19_0⟩ := zq1 BK296
    obtain ⟨hcz20_0, hfz20_0⟩ := zq1 BK295
    go_wp2_with (first | ((with_reducible refine gate_callee (f := 36) rfl ?_); refine goesL_ (some 29) rfl rfl Try.func36 (by kernel_rfl) rfl #[.int .i64 (wrap64 (65535 * (wrap64 (a3_0 - t298)))), .int .i64 (wrap64 (a3_0 - a2_0))] rfl (by (try simp only [List.map_toArray, List.map_cons, List.map_nil]); first | done | rfl | (simp only [List.length_drop, List.length_take]; rfl)) ?_; (with_reducible refine (num_Div.calls kj5 (wrap64 (65535 * (wrap64 (a3_0 - t298)))) (wrap64 (a3_0 - a2_0)) t300 _ A18.out).mono ?_); rintro e w' ⟨rfl, ⟨nd, rfl⟩⟩; refine ⟨_, rfl, ?_⟩))
    go_ret
    exact ⟨by first | rfl | (simp [errW_none, errW_some] <;> rfl) | (simp [*, errW_none, errW_some] <;> rfl), by exact zb0 HB⟩

end Go.Proofs.Ytmmncannibnklaa.G
