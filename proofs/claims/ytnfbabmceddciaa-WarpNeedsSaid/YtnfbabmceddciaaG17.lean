/- Contracts of functions of the program, each as it is called: what it computes (.f), that it computes no less with more rounds (.mono), and that a call returns just that (.calls). No conditions but those that each contract names. Written by a program of this session (wip/gx.py over the kit's print). -/
import Derived.Test.YtnfbabmceddciaaG0
import Derived.Test.YtnfbabmceddciaaG8
import Derived.Test.YtnfbabmceddciaaG13
import Derived.Test.YtnfbabmceddciaaG16
namespace Go.Proofs.Ytnfbabmceddciaa.G
open Go.RowKit Go.Proofs.YtnfbabmceddciaaW.PrintWords Go.Proofs.YtnfbabmceddciaaW.PrintLast Go.Proofs.YtnfbabmceddciaaW.PrintMore
attribute [local go_sem] max2_int min2_int max_two min_two max_three min_three max_four min_four max_five min_five   -- for this text's walks alone
set_option linter.unusedVariables false
set_option linter.unusedSimpArgs false


attribute [local go_sem high] eqA34
/-! ### imageeditorlaw15_WarpNeeds: function 4 -/
def imageeditorlaw15_WarpNeeds.f (k : Nat) (a0_0 : Int) (a0_1 : Int) (a0_2 : Int) (l0_3 : List (S28)) (a1 : Int) (a2_0 : Int) (a2_1 : Int) (a2_2 : Int) (a2_3 : Int) (a3_0 : Int) (a3_1 : Int) (a3_2 : Int) (a3_3 : Int) : Option (Bool) := (warp_Needs.f k a0_0 a0_1 a0_2 l0_3 a1 a2_0 a2_1 a2_2 a2_3 a3_0 a3_1 a3_2 a3_3).bind fun bt561 => ((imageeditorref15_Needs.f k a0_0 a0_1 a0_2 l0_3 a1 a2_0 a2_1 a2_2 a2_3 a3_0 a3_1 a3_2 a3_3).bind fun bt567 => (if (bt561.1 == bt567.1 && (bt561.2.1 == bt567.2.1 && (bt561.2.2.1 == bt567.2.2.1 && (bt561.2.2.2.1 == bt567.2.2.2.1)))) = true then (if bt561.2.2.2.2 = bt567.2.2.2.2 then ((imageeditorlaw15_awake.f k).bind fun t573 => (some t573)) else (some false)) else (some false)))
theorem imageeditorlaw15_WarpNeeds.mono : ∀ a0 a1 a2 a3 a4 a5 a6 a7 a8 a9 a10 a11 a12 k, LeO (imageeditorlaw15_WarpNeeds.f k a0 a1 a2 a3 a4 a5 a6 a7 a8 a9 a10 a11 a12) (imageeditorlaw15_WarpNeeds.f (k + 1) a0 a1 a2 a3 a4 a5 a6 a7 a8 a9 a10 a11 a12) := by
 intro a0 a1 a2 a3 a4 a5 a6 a7 a8 a9 a10 a11 a12 k
 unfold imageeditorlaw15_WarpNeeds.f
 repeat' first
   | (with_reducible exact imageeditorlaw15_awake.mono _)
   | (with_reducible exact imageeditorref15_Needs.mono _ _ _ _ _ _ _ _ _ _ _ _ _ _)
   | (with_reducible exact warp_Needs.mono _ _ _ _ _ _ _ _ _ _ _ _ _ _)
   | (with_reducible exact LeO.refl _)
   | (with_reducible exact LeO.none _)
   | (with_reducible refine LeO.ite ?_ ?_)
   | (with_reducible refine LeO.bind ?_ (fun _ => ?_))
   | exact imageeditorlaw15_awake.mono _
   | exact imageeditorref15_Needs.mono _ _ _ _ _ _ _ _ _ _ _ _ _ _
   | exact warp_Needs.mono _ _ _ _ _ _ _ _ _ _ _ _ _ _
   | exact LeO.none _
   | refine LeO.ite ?_ ?_
   | refine LeO.bind ?_ (fun _ => ?_)
set_option maxHeartbeats 8000000 in
set_option maxRecDepth 100000 in
theorem imageeditorlaw15_WarpNeeds.callsT (k : Nat) (a0_0 : Int) (a0_1 : Int) (a0_2 : Int) (A0_3 : Option Addr) (c0_3 : Nat) (l0_3 : List (S28)) (a1 : Int) (a2_0 : Int) (a2_1 : Int) (a2_2 : Int) (a2_3 : Int) (a3_0 : Int) (a3_1 : Int) (a3_2 : Int) (a3_3 : Int) (r : Bool) (w : World) (hr0_3 : Kd.C k28 w A0_3 l0_3.length l0_3) (hc0_3 : l0_3.length ≤ c0_3) (hT : r = true) (h : imageeditorlaw15_WarpNeeds.f k a0_0 a0_1 a0_2 l0_3 a1 a2_0 a2_1 a2_2 a2_3 a3_0 a3_1 a3_2 a3_3 = some r) :
  Calls Try.prog 4 #[.agg #[.int .i64 a0_0, .int .i64 a0_1, .int .i64 a0_2, .slice A0_3 l0_3.length c0_3], .int .i64 a1, .agg #[.int .i64 a2_0, .int .i64 a2_1, .int .i64 a2_2, .int .i64 a2_3], .agg #[.int .i64 a3_0, .int .i64 a3_1, .int .i64 a3_2, .int .i64 a3_3]] w fun e w' => e = .returned (.bool r) ∧ Below w.heap.size w w' := by
 have hu24 := Try.underlying24
 have hu34 := Try.underlying34
 have HT := Aside0.mk hT
 clear hT
 have HR0_3 := Aside0.mk hr0_3
 have HC0_3 := Aside0.mk hc0_3
 clear hr0_3 hc0_3
 have HB := Aside0.mk (Below.refl w.heap.size w)
 have H : ((warp_Needs.f k a0_0 a0_1 a0_2 l0_3 a1 a2_0 a2_1 a2_2 a2_3 a3_0 a3_1 a3_2 a3_3).bind fun bt561 => ((imageeditorref15_Needs.f k a0_0 a0_1 a0_2 l0_3 a1 a2_0 a2_1 a2_2 a2_3 a3_0 a3_1 a3_2 a3_3).bind fun bt567 => (if (bt561.1 == bt567.1 && (bt561.2.1 == bt567.2.1 && (bt561.2.2.1 == bt567.2.2.1 && (bt561.2.2.2.1 == bt567.2.2.2.1)))) = true then (if bt561.2.2.2.2 = bt567.2.2.2.2 then ((imageeditorlaw15_awake.f k).bind fun t573 => (some t573)) else (some false)) else (some false)))) = some r := h
 clear h
 replace H := Option.bind_eq_some_iff.mp H
 obtain ⟨⟨t561, t562, t563, t564, t565⟩, A50, H⟩ := H
 replace H : ((imageeditorref15_Needs.f k a0_0 a0_1 a0_2 l0_3 a1 a2_0 a2_1 a2_2 a2_3 a3_0 a3_1 a3_2 a3_3).bind fun bt567 => (if (t561 == bt567.1 && (t562 == bt567.2.1 && (t563 == bt567.2.2.1 && (t564 == bt567.2.2.2.1)))) = true then (if t565 = bt567.2.2.2.2 then ((imageeditorlaw15_awake.f k).bind fun t573 => (some t573)) else (some false)) else (some false))) = some r := H
 have A5 := Aside0.mk A50
 clear A50
 replace H := Option.bind_eq_some_iff.mp H
 obtain ⟨⟨t567, t568, t569, t570, t571⟩, A60, H⟩ := H
 replace H : (if (t561 == t567 && (t562 == t568 && (t563 == t569 && (t564 == t570)))) = true then (if t565 = t571 then ((imageeditorlaw15_awake.f k).bind fun t573 => (some t573)) else (some false)) else (some false)) = some r := H
 have A6 := Aside0.mk A60
 clear A60
 by_cases c7 : (t561 == t567 && (t562 == t568 && (t563 == t569 && (t564 == t570)))) = true
 ·rw [if_pos c7] at H
  have c7b0 : (t561 == t567 && (t562 == t568 && (t563 == t569 && (t564 == t570)))) = true := c7
  (try (have c7b1 : decide (t561 = t567 && (t562 == t568 && (t563 == t569 && (t564 == t570)))) = true := by simpa using c7))
  (try (have c7b2 : (t561 == t567 && (t562 == t568 && (t563 == t569 && (t564 == t570)))) = true := by simpa using c7))
  clear c7
  by_cases c8 : t565 = t571
  ·rw [if_pos c8] at H
   have c8b0 : (t565 == t571) = true := beq_iff_eq.mpr c8
   have c8b1 : (t565 != t571) = false := bne_eq_false_iff_eq.mpr c8
   clear c8
   replace H := Option.bind_eq_some_iff.mp H
   obtain ⟨t573, A90, H⟩ := H
   replace H : (some t573) = some r := H
   have A9 := Aside0.mk A90
   clear A90
   as_aux_lemma =>
    obtain rfl := Option.some.inj H
    go_enter Try.func4, Try.ntmps4
    go_wp2_with (first | ((with_reducible refine gate_dst (N := 4) rfl ?_); refine box_event ?hg (N := 4) ?hd (cs := #[.int .i64 a0_0, .int .i64 a0_1, .int .i64 a0_2, .slice A0_3 l0_3.length c0_3]) (t := 24) ?hr ?_; (case hd => rfl); (case hg => rfl); (case hr => first | (go_simp; done) | (go_simp; rfl)); intro gb558 hg w10 hbox hb; have GW558 := zg HB hg; have GE558 := zg HB hg; have n0_ := Aside0.mk (hbox); replace HB := zb HB hb; have BK558 := n0_; clear n0_; clear hb hbox hg) | ((with_reducible refine gate_dst (N := 6) rfl ?_); refine box_event ?hg (N := 6) ?hd (cs := #[.int .i64 a2_0, .int .i64 a2_1, .int .i64 a2_2, .int .i64 a2_3]) (t := 34) ?hr ?_; (case hd => rfl); (case hg => rfl); (case hr => first | (go_simp; done) | (go_simp; rfl)); intro gb559 hg w11 hbox hb; have GW559 := zg HB hg; have GE559 := zg HB hg; have NB558_559 := zn BK558 hg; have NB559_558 := zn' BK558 hg; have n0_ := Aside0.mk (hbox); replace BK558 := zk BK558 hb; replace HB := zb HB hb; have BK559 := n0_; clear n0_; clear hb hbox hg) | ((with_reducible refine gate_dst (N := 7) rfl ?_); refine box_event ?hg (N := 7) ?hd (cs := #[.int .i64 a3_0, .int .i64 a3_1, .int .i64 a3_2, .int .i64 a3_3]) (t := 34) ?hr ?_; (case hd => rfl); (case hg => rfl); (case hr => first | (go_simp; done) | (go_simp; rfl)); intro gb560 hg w12 hbox hb; have GW560 := zg HB hg; have GE560 := zg HB hg; have NB558_560 := zn BK558 hg; have NB560_558 := zn' BK558 hg; have NB559_560 := zn BK559 hg; have NB560_559 := zn' BK559 hg; have n0_ := Aside0.mk (hbox); replace BK558 := zk BK558 hb; replace BK559 := zk BK559 hb; replace HB := zb HB hb; have BK560 := n0_; clear n0_; clear hb hbox hg; have hnb13 := NB558_559.out; have hnc13 := NB559_558.out; have hnb14 := NB558_560.out; have hnc14 := NB560_558.out; obtain ⟨hcz15_0, hcz15_1, hcz15_2, hcz15_3, hfz15_0, hfz15_1, hfz15_2, hfz15_3⟩ := zq4 BK558; have hnb16 := NB559_560.out; have hnc16 := NB560_559.out; obtain ⟨hcz17_0, hcz17_1, hcz17_2, hcz17_3, hfz17_0, hfz17_1, hfz17_2, hfz17_3⟩ := zq4 BK559; obtain ⟨hcz18_0, hcz18_1, hcz18_2, hcz18_3, hfz18_0, hfz18_1, hfz18_2, hfz18_3⟩ := zq4 BK560) | ((with_reducible refine gate_callee (f := 17) rfl ?_); refine goesL_ (some 18) rfl rfl Try.func17 (by kernel_rfl) rfl #[.agg #[.int .i64 a0_0, .int .i64 a0_1, .int .i64 a0_2, .slice A0_3 l0_3.length c0_3], .int .i64 a1, .agg #[.int .i64 a2_0, .int .i64 a2_1, .int .i64 a2_2, .int .i64 a2_3], .agg #[.int .i64 a3_0, .int .i64 a3_1, .int .i64 a3_2, .int .i64 a3_3]] rfl (by (try simp only [List.map_toArray, List.map_cons, List.map_nil]); first | done | rfl | (simp only [List.length_drop, List.length_take]; rfl)) ?_; (with_reducible refine (warp_Needs.calls k a0_0 a0_1 a0_2 _ _ l0_3 a1 a2_0 a2_1 a2_2 a2_3 a3_0 a3_1 a3_2 a3_3 t561 t562 t563 t564 t565 _ ?side1 ?side2 A5.out).mono ?_); (case side1 => repeat (first | exact (Kd.C_below HR0_3.out HB.out) | (with_reducible refine Kd.C_alloc ?_ _) | (with_reducible refine Kd.C_drewN ?_ _) | (with_reducible refine Kd.C_drew ?_))); (case side2 => exact HC0_3.out); rintro e w19 ⟨rfl, hb⟩; refine ⟨_, rfl, ?_⟩; replace BK558 := zk BK558 hb; replace BK559 := zk BK559 hb; replace BK560 := zk BK560 hb; replace HB := zb HB hb; (try clear hb); (try clear hb2); (try clear hk); (try clear hi)) | ((with_reducible refine gate_dst (N := 9) rfl ?_); refine box_event ?hg (N := 9) ?hd (cs := #[.int .i64 0, .int .i64 0, .int .i64 0, .int .i64 0]) (t := 34) ?hr ?_; (case hd => rfl); (case hg => rfl); (case hr => first | (go_simp; done) | (go_simp; rfl)); intro gb566 hg w20 hbox hb; have GW566 := zg HB hg; have GE566 := zg HB hg; have NB558_566 := zn BK558 hg; have NB566_558 := zn' BK558 hg; have NB559_566 := zn BK559 hg; have NB566_559 := zn' BK559 hg; have NB560_566 := zn BK560 hg; have NB566_560 := zn' BK560 hg; have n0_ := Aside0.mk (hbox); replace BK558 := zk BK558 hb; replace BK559 := zk BK559 hb; replace BK560 := zk BK560 hb; replace HB := zb HB hb; have BK566 := n0_; clear n0_; clear hb hbox hg; have hnb21 := NB566_558.out; have hnc21 := NB558_566.out; have hnb22 := NB566_559.out; have hnc22 := NB559_566.out; have hnb23 := NB566_560.out; have hnc23 := NB560_566.out; obtain ⟨hcz24_0, hcz24_1, hcz24_2, hcz24_3, hfz24_0, hfz24_1, hfz24_2, hfz24_3⟩ := zq4 BK566; obtain ⟨hcz25_0, hcz25_1, hcz25_2, hcz25_3, hfz25_0, hfz25_1, hfz25_2, hfz25_3⟩ := zq4 BK558; obtain ⟨hcz26_0, hcz26_1, hcz26_2, hcz26_3, hfz26_0, hfz26_1, hfz26_2, hfz26_3⟩ := zq4 BK559; obtain ⟨hcz27_0, hcz27_1, hcz27_2, hcz27_3, hfz27_0, hfz27_1, hfz27_2, hfz27_3⟩ := zq4 BK560) | ((with_reducible refine gate_callee (f := 18) rfl ?_); refine goesL_ (some 26) rfl rfl Try.func18 (by kernel_rfl) rfl #[.agg #[.int .i64 a0_0, .int .i64 a0_1, .int .i64 a0_2, .slice A0_3 l0_3.length c0_3], .int .i64 a1, .agg #[.int .i64 a2_0, .int .i64 a2_1, .int .i64 a2_2, .int .i64 a2_3], .agg #[.int .i64 a3_0, .int .i64 a3_1, .int .i64 a3_2, .int .i64 a3_3]] rfl (by (try simp only [List.map_toArray, List.map_cons, List.map_nil]); first | done | rfl | (simp only [List.length_drop, List.length_take]; rfl)) ?_; (with_reducible refine (imageeditorref15_Needs.calls k a0_0 a0_1 a0_2 _ _ l0_3 a1 a2_0 a2_1 a2_2 a2_3 a3_0 a3_1 a3_2 a3_3 t567 t568 t569 t570 t571 _ ?side1 ?side2 A6.out).mono ?_); (case side1 => exact Kd.C_below HR0_3.out (by exact zbo HB GE566)); (case side2 => exact HC0_3.out); rintro e w28 ⟨rfl, hb⟩; refine ⟨_, rfl, ?_⟩; have n0_ := Aside0.mk (blk_below (g := gb566) (o := .cells #[.int .i64 t561, .int .i64 t562, .int .i64 t563, .int .i64 t564] 34 (0, 0)) (by exact zp BK566 rfl) hb); have n1_ := Aside0.mk (below_step (by exact zbo HB GE566) hb); replace BK558 := zfk BK558 NB558_566 hb; replace BK559 := zfk BK559 NB559_566 hb; replace BK560 := zfk BK560 NB560_566 hb; clear BK566; clear HB; have BK566 := n0_; have HB := n1_; clear n0_ n1_; (try clear hb); (try clear hb2); (try clear hk); (try clear hi); (try clear BK558); (try clear BK559); (try clear BK560)) | ((with_reducible refine gate_dst (N := 11) rfl ?_); refine box_event ?hg (N := 11) ?hd (cs := #[.int .i64 0, .int .i64 0, .int .i64 0, .int .i64 0]) (t := 34) ?hr ?_; (case hd => rfl); (case hg => rfl); (case hr => first | (go_simp; done) | (go_simp; rfl)); intro gb572 hg w29 hbox hb; have GW572 := zg HB hg; have GE572 := zg HB hg; have NB566_572 := zn BK566 hg; have NB572_566 := zn' BK566 hg; have n0_ := Aside0.mk (hbox); replace BK566 := zk BK566 hb; replace HB := zb HB hb; have BK572 := n0_; clear n0_; clear hb hbox hg; have hnb30 := NB572_566.out; have hnc30 := NB566_572.out; obtain ⟨hcz31_0, hcz31_1, hcz31_2, hcz31_3, hfz31_0, hfz31_1, hfz31_2, hfz31_3⟩ := zq4 BK572; obtain ⟨hcz32_0, hcz32_1, hcz32_2, hcz32_3, hfz32_0, hfz32_1, hfz32_2, hfz32_3⟩ := zq4 BK566) | (go_at_call 16; (with_reducible refine (imageeditorlaw15_awake.calls k  t573 _ A9.out).mono ?_); rintro e w33 ⟨rfl, hb⟩; have n0_ := Aside0.mk (blk_below (g := gb572) (o := .cells #[.int .i64 t567, .int .i64 t568, .int .i64 t569, .int .i64 t570] 34 (0, 0)) (by exact zp BK572 rfl) hb); have n1_ := Aside0.mk (below_step (by exact zbo HB GE572) hb); replace BK566 := zfk BK566 NB566_572 hb; clear BK572; clear HB; have BK572 := n0_; have HB := n1_; clear n0_ n1_; (try clear hb); (try clear hb2); (try clear hk); (try clear hi)))
    go_ret
    exact ⟨by first | rfl | (simp [errW_none, errW_some] <;> rfl) | (simp [*, errW_none, errW_some] <;> rfl), by exact zb0 HB⟩
  ·rw [if_neg c8] at H
   have c8b0 : (t565 == t571) = false := beq_eq_false_iff_ne.mpr c8
   have c8b1 : (t565 != t571) = true := bne_iff_ne.mpr c8
   as_aux_lemma =>
    exact absurd HT.out (by rw [← Option.some.inj H]; decide)
 ·rw [if_neg c7] at H
  have c7b0 : (t561 == t567 && (t562 == t568 && (t563 == t569 && (t564 == t570)))) = false := by simpa using c7
  (try (have c7b1 : decide (t561 = t567 && (t562 == t568 && (t563 == t569 && (t564 == t570)))) = false := by simpa using c7))
  (try (have c7b2 : (t561 == t567 && (t562 == t568 && (t563 == t569 && (t564 == t570)))) = false := by simpa using c7))
  (try (have c7b3 : ¬ (t561 = t567 && (t562 == t568 && (t563 == t569 && (t564 == t570)))) := by simpa using c7))
  clear c7
  as_aux_lemma =>
   exact absurd HT.out (by rw [← Option.some.inj H]; decide)

end Go.Proofs.Ytnfbabmceddciaa.G
