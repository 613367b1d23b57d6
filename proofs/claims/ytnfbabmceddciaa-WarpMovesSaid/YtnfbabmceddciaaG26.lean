/- Contracts of functions of the program, each as it is called: what it computes (.f), that it computes no less with more rounds (.mono), and that a call returns just that (.calls). No conditions but those that each contract names. Written by a program of this session (wip/gx.py over the kit's print). -/
import Derived.Test.YtnfbabmceddciaaG0
import Derived.Test.YtnfbabmceddciaaG9
import Derived.Test.YtnfbabmceddciaaG25
namespace Go.Proofs.Ytnfbabmceddciaa.G
open Go.RowKit Go.Proofs.YtnfbabmceddciaaW.PrintWords Go.Proofs.YtnfbabmceddciaaW.PrintLast Go.Proofs.YtnfbabmceddciaaW.PrintMore
attribute [local go_sem] max2_int min2_int max_two min_two max_three min_three max_four min_four max_five min_five   -- for this text's walks alone
set_option linter.unusedVariables false
set_option linter.unusedSimpArgs false


/-! ### raster_Edge: function 23 -/
def raster_Edge.f (k : Nat) (a0_0 : Int) (a0_1 : Int) (l0_2 : List (S48)) (a1 : Int) (a2 : Int) : Option (Int × Int × Int × Int) := (raster_Check.f k a0_0 a0_1 l0_2).bind fun t748 => (if t748 = 0 then ((raster_get.f a0_0 a0_1 l0_2 (mn (mx a1 0) (wrap64 (a0_0 - 1))) (mn (mx a2 0) (wrap64 (a0_1 - 1)))).bind fun bt749 => (some (bt749.1, bt749.2.1, bt749.2.2.1, bt749.2.2.2))) else (some (0, 0, 0, 0)))
theorem raster_Edge.mono : ∀ a0 a1 a2 a3 a4 k, LeO (raster_Edge.f k a0 a1 a2 a3 a4) (raster_Edge.f (k + 1) a0 a1 a2 a3 a4) := by
 intro a0 a1 a2 a3 a4 k
 unfold raster_Edge.f
 repeat' first
   | (with_reducible exact raster_Check.mono _ _ _ _)
   | (with_reducible exact LeO.refl _)
   | (with_reducible exact LeO.none _)
   | (with_reducible refine LeO.ite ?_ ?_)
   | (with_reducible refine LeO.bind ?_ (fun _ => ?_))
   | exact raster_Check.mono _ _ _ _
   | exact LeO.none _
   | refine LeO.ite ?_ ?_
   | refine LeO.bind ?_ (fun _ => ?_)
set_option maxHeartbeats 8000000 in
set_option maxRecDepth 100000 in
theorem raster_Edge.calls (k : Nat) (a0_0 : Int) (a0_1 : Int) (A0_2 : Option Addr) (c0_2 : Nat) (l0_2 : List (S48)) (a1 : Int) (a2 : Int) (r1 : Int) (r2 : Int) (r3 : Int) (r4 : Int) (w : World) (hr0_2 : Kd.C k48 w A0_2 l0_2.length l0_2) (hc0_2 : l0_2.length ≤ c0_2) (h : raster_Edge.f k a0_0 a0_1 l0_2 a1 a2 = some (r1, r2, r3, r4)) :
  Calls Try.prog 23 #[.agg #[.int .i64 a0_0, .int .i64 a0_1, .slice A0_2 l0_2.length c0_2], .int .i64 a1, .int .i64 a2] w fun e w' => e = .returned (.agg #[.int .i64 r1, .int .i64 r2, .int .i64 r3, .int .i64 r4]) ∧ Below w.heap.size w w' := by
 have hu40 := Try.underlying40
 have hu48 := Try.underlying48
 have HR0_2 := Aside0.mk hr0_2
 have HC0_2 := Aside0.mk hc0_2
 clear hr0_2 hc0_2
 have HB := Aside0.mk (Below.refl w.heap.size w)
 have H : ((raster_Check.f k a0_0 a0_1 l0_2).bind fun t748 => (if t748 = 0 then ((raster_get.f a0_0 a0_1 l0_2 (mn (mx a1 0) (wrap64 (a0_0 - 1))) (mn (mx a2 0) (wrap64 (a0_1 - 1)))).bind fun bt749 => (some (bt749.1, bt749.2.1, bt749.2.2.1, bt749.2.2.2))) else (some (0, 0, 0, 0)))) = some (r1, r2, r3, r4) := h
 clear h
 replace H := Option.bind_eq_some_iff.mp H
 obtain ⟨t748, A40, H⟩ := H
 replace H : (if t748 = 0 then ((raster_get.f a0_0 a0_1 l0_2 (mn (mx a1 0) (wrap64 (a0_0 - 1))) (mn (mx a2 0) (wrap64 (a0_1 - 1)))).bind fun bt749 => (some (bt749.1, bt749.2.1, bt749.2.2.1, bt749.2.2.2))) else (some (0, 0, 0, 0))) = some (r1, r2, r3, r4) := H
 have A4 := Aside0.mk A40
 clear A40
 by_cases c5 : t748 = 0
 ·rw [if_pos c5] at H
  have c5b0 : (t748 == 0) = true := beq_iff_eq.mpr c5
  have c5b1 : (t748 != 0) = false := bne_eq_false_iff_eq.mpr c5
  clear c5
  obtain ⟨ji6, hji6⟩ : ∃ j_ : Int, (mx a1 0) = j_ := ⟨_, rfl⟩
  replace H : ((raster_get.f a0_0 a0_1 l0_2 (mn (ji6) (wrap64 (a0_0 - 1))) (mn (mx a2 0) (wrap64 (a0_1 - 1)))).bind fun bt749 => (some (bt749.1, bt749.2.1, bt749.2.2.1, bt749.2.2.2))) = some (r1, r2, r3, r4) := by first | (rw [hji6] at H; exact H) | (simp only [hji6] at H ⊢; exact H)
  (try rw [hji6] at A4)
  (try (have hji6l : 0 ≤ ji6 := by (rw [← hji6]; unfold mx; (repeat' split) <;> omega)))
  (try (have hji6m : 0 ≤ ji6 := by omega))
  have hji6_ : (if a1 < 0 then 0 else a1) = ji6 := hji6
  obtain ⟨ji7, hji7⟩ : ∃ j_ : Int, (mn (ji6) (wrap64 (a0_0 - 1))) = j_ := ⟨_, rfl⟩
  replace H : ((raster_get.f a0_0 a0_1 l0_2 (ji7) (mn (mx a2 0) (wrap64 (a0_1 - 1)))).bind fun bt749 => (some (bt749.1, bt749.2.1, bt749.2.2.1, bt749.2.2.2))) = some (r1, r2, r3, r4) := by first | (rw [hji7] at H; exact H) | (simp only [hji7] at H ⊢; exact H)
  (try rw [hji7] at A4)
  have hji7_ : (if (wrap64 (a0_0 - 1)) < (ji6) then (wrap64 (a0_0 - 1)) else (ji6)) = ji7 := hji7
  obtain ⟨ji8, hji8⟩ : ∃ j_ : Int, (mx a2 0) = j_ := ⟨_, rfl⟩
  replace H : ((raster_get.f a0_0 a0_1 l0_2 (ji7) (mn (ji8) (wrap64 (a0_1 - 1)))).bind fun bt749 => (some (bt749.1, bt749.2.1, bt749.2.2.1, bt749.2.2.2))) = some (r1, r2, r3, r4) := by first | (rw [hji8] at H; exact H) | (simp only [hji8] at H ⊢; exact H)
  (try rw [hji8] at A4)
  (try (have hji8l : 0 ≤ ji8 := by (rw [← hji8]; unfold mx; (repeat' split) <;> omega)))
  (try (have hji8m : 0 ≤ ji8 := by omega))
  have hji8_ : (if a2 < 0 then 0 else a2) = ji8 := hji8
  obtain ⟨ji9, hji9⟩ : ∃ j_ : Int, (mn (ji8) (wrap64 (a0_1 - 1))) = j_ := ⟨_, rfl⟩
  replace H : ((raster_get.f a0_0 a0_1 l0_2 (ji7) (ji9)).bind fun bt749 => (some (bt749.1, bt749.2.1, bt749.2.2.1, bt749.2.2.2))) = some (r1, r2, r3, r4) := by first | (rw [hji9] at H; exact H) | (simp only [hji9] at H ⊢; exact H)
  (try rw [hji9] at A4)
  have hji9_ : (if (wrap64 (a0_1 - 1)) < (ji8) then (wrap64 (a0_1 - 1)) else (ji8)) = ji9 := hji9
  replace H := Option.bind_eq_some_iff.mp H
  obtain ⟨⟨t749, t750, t751, t752⟩, A100, H⟩ := H
  replace H : (some (t749, t750, t751, t752)) = some (r1, r2, r3, r4) := H
  have A10 := Aside0.mk A100
  clear A100
  simp only [Option.some.injEq, Prod.mk.injEq] at H
  obtain ⟨rfl, rfl, rfl, rfl⟩ := H
  go_enter Try.func23, Try.ntmps23
  go_wp2_with (first | ((with_reducible refine gate_dst (N := 3) rfl ?_); refine box_event ?hg (N := 3) ?hd (cs := #[.int .i64 a0_0, .int .i64 a0_1, .slice A0_2 l0_2.length c0_2]) (t := 40) ?hr ?_; (case hd => rfl); (case hg => rfl); (case hr => first | (go_simp; done) | (go_simp; rfl)); intro gb746 hg w11 hbox hb; have GW746 := zg HB hg; have GE746 := zg HB hg; have n0_ := Aside0.mk (hbox); replace HB := zb HB hb; have BK746 := n0_; clear n0_; clear hb hbox hg) | ((with_reducible refine gate_dst (N := 6) rfl ?_); refine box_event ?hg (N := 6) ?hd (cs := #[.int .i64 0, .int .i64 0, .int .i64 0, .int .i64 0]) (t := 48) ?hr ?_; (case hd => rfl); (case hg => rfl); (case hr => first | (go_simp; done) | (go_simp; rfl)); intro gb747 hg w12 hbox hb; have GW747 := zg HB hg; have GE747 := zg HB hg; have NB746_747 := zn BK746 hg; have NB747_746 := zn' BK746 hg; have n0_ := Aside0.mk (hbox); replace BK746 := zk BK746 hb; replace HB := zb HB hb; have BK747 := n0_; clear n0_; clear hb hbox hg; have hnb13 := NB746_747.out; have hnc13 := NB747_746.out; obtain ⟨hcz14_0, hcz14_1, hcz14_2, hfz14_0, hfz14_1, hfz14_2⟩ := zq3 BK746) | ((with_reducible refine gate_callee (f := 22) rfl ?_); refine goesL_ (some 8) rfl rfl Try.func22 (by kernel_rfl) rfl #[.agg #[.int .i64 a0_0, .int .i64 a0_1, .slice A0_2 l0_2.length c0_2]] rfl (by (try simp only [List.map_toArray, List.map_cons, List.map_nil]); first | done | rfl | (simp only [List.length_drop, List.length_take]; rfl)) ?_; (with_reducible refine (raster_Check.calls k a0_0 a0_1 _ _ l0_2 t748 _ ?side1 ?side2 A4.out).mono ?_); (case side1 => repeat (first | exact (Kd.C_below HR0_2.out HB.out) | (with_reducible refine Kd.C_alloc ?_ _) | (with_reducible refine Kd.C_drewN ?_ _) | (with_reducible refine Kd.C_drew ?_))); (case side2 => exact HC0_2.out); rintro e w15 ⟨rfl, hb⟩; refine ⟨_, rfl, ?_⟩; replace BK746 := zk BK746 hb; replace BK747 := zk BK747 hb; replace HB := zb HB hb; (try clear hb); (try clear hb2); (try clear hk); (try clear hi); obtain ⟨hcz16_0, hcz16_1, hcz16_2, hfz16_0, hfz16_1, hfz16_2⟩ := zq3 BK746) | ((with_reducible refine gate_callee (f := 59) rfl ?_); refine goesL_ (some 24) rfl rfl Try.func59 (by kernel_rfl) rfl #[.agg #[.int .i64 a0_0, .int .i64 a0_1, .slice A0_2 l0_2.length c0_2], .int .i64 ji7, .int .i64 ji9] rfl (by (try simp only [List.map_toArray, List.map_cons, List.map_nil]); first | done | (simp only [hji7, hji9]; rfl) | rfl | (simp only [List.length_drop, List.length_take]; rfl)) ?_; (with_reducible refine (raster_get.calls a0_0 a0_1 _ _ l0_2 ji7 ji9 t749 t750 t751 t752 _ ?side1 ?side2 A10.out).mono ?_); (case side1 => repeat (first | exact (Kd.C_below HR0_2.out HB.out) | (with_reducible refine Kd.C_alloc ?_ _) | (with_reducible refine Kd.C_drewN ?_ _) | (with_reducible refine Kd.C_drew ?_))); (case side2 => exact HC0_2.out); rintro e w17 ⟨rfl, hb⟩; refine ⟨_, rfl, ?_⟩; replace BK746 := zk BK746 hb; replace BK747 := zk BK747 hb; replace HB := zb HB hb; (try clear hb); (try clear hb2); (try clear hk); (try clear hi); obtain ⟨hcz18_0, hcz18_1, hcz18_2, hcz18_3, hfz18_0, hfz18_1, hfz18_2, hfz18_3⟩ := zq4 BK747))
  refine bodyPost_ret (results_cell_row rfl _ _ gb747 48 #[.int .i64 t749, .int .i64 t750, .int .i64 t751, .int .i64 t752] (0, 0) _ rfl (by exact zp BK747 rfl) Try.underlying48 rfl (by kernel_rfl)) rfl ?_
  exact ⟨by first | rfl | (simp [errW_none, errW_some] <;> rfl) | (simp only [← hji6, ← hji7, ← hji8, ← hji9]; first | rfl | (simp [errW_none, errW_some] <;> rfl)) | (simp [*, errW_none, errW_some] <;> rfl), by exact zbo HB GE747⟩
 ·rw [if_neg c5] at H
  have c5b0 : (t748 == 0) = false := beq_eq_false_iff_ne.mpr c5
  have c5b1 : (t748 != 0) = true := bne_iff_ne.mpr c5
  simp only [Option.some.injEq, Prod.mk.injEq] at H
  obtain ⟨rfl, rfl, rfl, rfl⟩ := H
  go_enter Try.func23, Try.ntmps23
  go_wp2_with (first | ((with_reducible refine gate_dst (N := 3) rfl ?_); refine box_event ?hg (N := 3) ?hd (cs := #[.int .i64 a0_0, .int .i64 a0_1, .slice A0_2 l0_2.length c0_2]) (t := 40) ?hr ?_; (case hd => rfl); (case hg => rfl); (case hr => first | (go_simp; done) | (go_simp; rfl)); intro gb746 hg w19 hbox hb; have GW746 := zg HB hg; have GE746 := zg HB hg; have n0_ := Aside0.mk (hbox); replace HB := zb HB hb; have BK746 := n0_; clear n0_; clear hb hbox hg) | ((with_reducible refine gate_dst (N := 6) rfl ?_); refine box_event ?hg (N := 6) ?hd (cs := #[.int .i64 0, .int .i64 0, .int .i64 0, .int .i64 0]) (t := 48) ?hr ?_; (case hd => rfl); (case hg => rfl); (case hr => first | (go_simp; done) | (go_simp; rfl)); intro gb747 hg w20 hbox hb; have GW747 := zg HB hg; have GE747 := zg HB hg; have NB746_747 := zn BK746 hg; have NB747_746 := zn' BK746 hg; have n0_ := Aside0.mk (hbox); replace BK746 := zk BK746 hb; replace HB := zb HB hb; have BK747 := n0_; clear n0_; clear hb hbox hg; have hnb21 := NB746_747.out; have hnc21 := NB747_746.out; obtain ⟨hcz22_0, hcz22_1, hcz22_2, hfz22_0, hfz22_1, hfz22_2⟩ := zq3 BK746) | ((with_reducible refine gate_callee (f := 22) rfl ?_); refine goesL_ (some 8) rfl rfl Try.func22 (by kernel_rfl) rfl #[.agg #[.int .i64 a0_0, .int .i64 a0_1, .slice A0_2 l0_2.length c0_2]] rfl (by (try simp only [List.map_toArray, List.map_cons, List.map_nil]); first | done | rfl | (simp only [List.length_drop, List.length_take]; rfl)) ?_; (with_reducible refine (raster_Check.calls k a0_0 a0_1 _ _ l0_2 t748 _ ?side1 ?side2 A4.out).mono ?_); (case side1 => repeat (first | exact (Kd.C_below HR0_2.out HB.out) | (with_reducible refine Kd.C_alloc ?_ _) | (with_reducible refine Kd.C_drewN ?_ _) | (with_reducible refine Kd.C_drew ?_))); (case side2 => exact HC0_2.out); rintro e w23 ⟨rfl, hb⟩; refine ⟨_, rfl, ?_⟩; replace BK746 := zk BK746 hb; replace BK747 := zk BK747 hb; replace HB := zb HB hb; (try clear hb); (try clear hb2); (try clear hk); (try clear hi); obtain ⟨hcz24_0, hcz24_1, hcz24_2, hcz24_3, hfz24_0, hfz24_1, hfz24_2, hfz24_3⟩ := zq4 BK747))
  refine bodyPost_ret (results_cell_row rfl _ _ gb747 48 #[.int .i64 0, .int .i64 0, .int .i64 0, .int .i64 0] (0, 0) _ rfl (by exact zp BK747 rfl) Try.underlying48 rfl (by kernel_rfl)) rfl ?_
  exact ⟨by first | rfl | (simp [errW_none, errW_some] <;> rfl) | (simp [*, errW_none, errW_some] <;> rfl), by exact zbo HB GE747⟩

end Go.Proofs.Ytnfbabmceddciaa.G
