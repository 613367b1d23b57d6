/- Contracts of functions of the program, each as it is called: what it computes (.f), that it computes no less with more rounds (.mono), and that a call returns just that (.calls). No conditions but those that each contract names. Written by a program of this session (wip/gx.py over the kit's print). -/
import Derived.Test.YtnfbabmceddciaaG0
namespace Go.Proofs.Ytnfbabmceddciaa.G
open Go.RowKit Go.Proofs.YtnfbabmceddciaaW.PrintWords Go.Proofs.YtnfbabmceddciaaW.PrintLast Go.Proofs.YtnfbabmceddciaaW.PrintMore
attribute [local go_sem] max2_int min2_int max_two min_two max_three min_three max_four min_four max_five min_five   -- for this text's walks alone
set_option linter.unusedVariables false
set_option linter.unusedSimpArgs false


attribute [local go_sem high] eqA28
/-! ### imageeditorref13_Valid: function 40 -/
def imageeditorref13_Valid.f (a0 : Int) : Option (Bool) := if a0 ≥ 0 then (some (decide (a0 ≤ 4))) else (some false)
set_option maxHeartbeats 8000000 in
set_option maxRecDepth 100000 in
theorem imageeditorref13_Valid.calls (a0 : Int) (r : Bool) (w : World) (h : imageeditorref13_Valid.f a0 = some r) :
  Calls Try.prog 40 #[.int .i64 a0] w fun e w' => e = .returned (.bool r) ∧ Drawn0 w w' := by
 have H : (if a0 ≥ 0 then (some (decide (a0 ≤ 4))) else (some false)) = some r := h
 clear h
 by_cases c2 : a0 ≥ 0
 ·rw [if_pos c2] at H
  have c2b0 : decide (0 ≤ a0) = true := decide_eq_true c2
  clear c2
  obtain rfl := Option.some.inj H
  go_enter Try.func40, Try.ntmps40
  go_wp2
  go_ret
  exact ⟨by first | rfl | (simp; done) | (simp [*]; done), by repeat (first | exact Drawn0.refl _ | apply Drawn0.step)⟩
 ·rw [if_neg c2] at H
  have c2b0 : decide (0 ≤ a0) = false := decide_eq_false c2
  clear c2
  obtain rfl := Option.some.inj H
  go_enter Try.func40, Try.ntmps40
  go_wp2
  go_ret
  exact ⟨by first | rfl | (simp; done) | (simp [*]; done), by repeat (first | exact Drawn0.refl _ | apply Drawn0.step)⟩

/-! ### imageeditorref02_Valid: function 41 -/
def imageeditorref02_Valid.f (a0_0 : Int) (a0_1 : Int) (a0_2 : Int) (a0_3 : Int) : Option (Bool) := if a0_0 < (-1048576) then (some false) else (if a0_0 > 1048576 then (some false) else (if a0_1 < (-1048576) then (some false) else (if a0_1 > 1048576 then (some false) else (if a0_2 ≥ 0 then (if a0_3 ≥ 0 then (if a0_2 ≤ (wrap64 (1048576 - a0_0)) then (some (decide (a0_3 ≤ (wrap64 (1048576 - a0_1))))) else (some false)) else (some false)) else (some false)))))
set_option maxHeartbeats 8000000 in
set_option maxRecDepth 100000 in
theorem imageeditorref02_Valid.calls (a0_0 : Int) (a0_1 : Int) (a0_2 : Int) (a0_3 : Int) (r : Bool) (w : World) (h : imageeditorref02_Valid.f a0_0 a0_1 a0_2 a0_3 = some r) :
  Calls Try.prog 41 #[.agg #[.int .i64 a0_0, .int .i64 a0_1, .int .i64 a0_2, .int .i64 a0_3]] w fun e w' => e = .returned (.bool r) ∧ Below w.heap.size w w' := by
 have hu34 := Try.underlying34
 have HB := Aside0.mk (Below.refl w.heap.size w)
 have H : (if a0_0 < (-1048576) then (some false) else (if a0_0 > 1048576 then (some false) else (if a0_1 < (-1048576) then (some false) else (if a0_1 > 1048576 then (some false) else (if a0_2 ≥ 0 then (if a0_3 ≥ 0 then (if a0_2 ≤ (wrap64 (1048576 - a0_0)) then (some (decide (a0_3 ≤ (wrap64 (1048576 - a0_1))))) else (some false)) else (some false)) else (some false)))))) = some r := h
 clear h
 by_cases c2 : a0_0 < (-1048576)
 ·rw [if_pos c2] at H
  have c2b0 : decide (a0_0 < (-1048576)) = true := decide_eq_true c2
  clear c2
  obtain rfl := Option.some.inj H
  go_enter Try.func41, Try.ntmps41
  go_wp2_with (first | ((with_reducible refine gate_dst (N := 1) rfl ?_); refine box_event ?hg (N := 1) ?hd (cs := #[.int .i64 a0_0, .int .i64 a0_1, .int .i64 a0_2, .int .i64 a0_3]) (t := 34) ?hr ?_; (case hd => rfl); (case hg => rfl); (case hr => first | (go_simp; done) | (go_simp; rfl)); intro gb482 hg w3 hbox hb; have GW482 := zg HB hg; have GE482 := zg HB hg; have n0_ := Aside0.mk (hbox); replace HB := zb HB hb; have BK482 := n0_; clear n0_; clear hb hbox hg; obtain ⟨hcz4_0, hcz4_1, hcz4_2, hcz4_3, hfz4_0, hfz4_1, hfz4_2, hfz4_3⟩ := zq4 BK482))
  go_ret
  exact ⟨by first | rfl | (simp [errW_none, errW_some] <;> rfl) | (simp [*, errW_none, errW_some] <;> rfl), by exact zb0 HB⟩
 ·rw [if_neg c2] at H
  have c2b0 : decide (a0_0 < (-1048576)) = false := decide_eq_false c2
  clear c2
  by_cases c5 : a0_0 > 1048576
  ·rw [if_pos c5] at H
   have c5b0 : decide (1048576 < a0_0) = true := decide_eq_true c5
   clear c5
   obtain rfl := Option.some.inj H
   go_enter Try.func41, Try.ntmps41
   go_wp2_with (first | ((with_reducible refine gate_dst (N := 1) rfl ?_); refine box_event ?hg (N := 1) ?hd (cs := #[.int .i64 a0_0, .int .i64 a0_1, .int .i64 a0_2, .int .i64 a0_3]) (t := 34) ?hr ?_; (case hd => rfl); (case hg => rfl); (case hr => first | (go_simp; done) | (go_simp; rfl)); intro gb482 hg w6 hbox hb; have GW482 := zg HB hg; have GE482 := zg HB hg; have n0_ := Aside0.mk (hbox); replace HB := zb HB hb; have BK482 := n0_; clear n0_; clear hb hbox hg; obtain ⟨hcz7_0, hcz7_1, hcz7_2, hcz7_3, hfz7_0, hfz7_1, hfz7_2, hfz7_3⟩ := zq4 BK482))
   go_ret
   exact ⟨by first | rfl | (simp [errW_none, errW_some] <;> rfl) | (simp [*, errW_none, errW_some] <;> rfl), by exact zb0 HB⟩
  ·rw [if_neg c5] at H
   have c5b0 : decide (1048576 < a0_0) = false := decide_eq_false c5
   clear c5
   by_cases c8 : a0_1 < (-1048576)
   ·rw [if_pos c8] at H
    have c8b0 : decide (a0_1 < (-1048576)) = true := decide_eq_true c8
    clear c8
    obtain rfl := Option.some.inj H
    go_enter Try.func41, Try.ntmps41
    go_wp2_with (first | ((with_reducible refine gate_dst (N := 1) rfl ?_); refine box_event ?hg (N := 1) ?hd (cs := #[.int .i64 a0_0, .int .i64 a0_1, .int .i64 a0_2, .int .i64 a0_3]) (t := 34) ?hr ?_; (case hd => rfl); (case hg => rfl); (case hr => first | (go_simp; done) | (go_simp; rfl)); intro gb482 hg w9 hbox hb; have GW482 := zg HB hg; have GE482 := zg HB hg; have n0_ := Aside0.mk (hbox); replace HB := zb HB hb; have BK482 := n0_; clear n0_; clear hb hbox hg; obtain ⟨hcz10_0, hcz10_1, hcz10_2, hcz10_3, hfz10_0, hfz10_1, hfz10_2, hfz10_3⟩ := zq4 BK482))
    go_ret
    exact ⟨by first | rfl | (simp [errW_none, errW_some] <;> rfl) | (simp [*, errW_none, errW_some] <;> rfl), by exact zb0 HB⟩
   ·rw [if_neg c8] at H
    have c8b0 : decide (a0_1 < (-1048576)) = false := decide_eq_false c8
    clear c8
    by_cases c11 : a0_1 > 1048576
    ·rw [if_pos c11] at H
     have c11b0 : decide (1048576 < a0_1) = true := decide_eq_true c11
     clear c11
     obtain rfl := Option.some.inj H
     go_enter Try.func41, Try.ntmps41
     go_wp2_with (first | ((with_reducible refine gate_dst (N := 1) rfl ?_); refine box_event ?hg (N := 1) ?hd (cs := #[.int .i64 a0_0, .int .i64 a0_1, .int .i64 a0_2, .int .i64 a0_3]) (t := 34) ?hr ?_; (case hd => rfl); (case hg => rfl); (case hr => first | (go_simp; done) | (go_simp; rfl)); intro gb482 hg w12 hbox hb; have GW482 := zg HB hg; have GE482 := zg HB hg; have n0_ := Aside0.mk (hbox); replace HB := zb HB hb; have BK482 := n0_; clear n0_; clear hb hbox hg; obtain ⟨hcz13_0, hcz13_1, hcz13_2, hcz13_3, hfz13_0, hfz13_1, hfz13_2, hfz13_3⟩ := zq4 BK482))
     go_ret
     exact ⟨by first | rfl | (simp [errW_none, errW_some] <;> rfl) | (simp [*, errW_none, errW_some] <;> rfl), by exact zb0 HB⟩
    ·rw [if_neg c11] at H
     have c11b0 : decide (1048576 < a0_1) = false := decide_eq_false c11
     clear c11
     by_cases c14 : a0_2 ≥ 0
     ·rw [if_pos c14] at H
      have c14b0 : decide (0 ≤ a0_2) = true := decide_eq_true c14
      clear c14
      by_cases c15 : a0_3 ≥ 0
      ·rw [if_pos c15] at H
       have c15b0 : decide (0 ≤ a0_3) = true := decide_eq_true c15
       clear c15
       by_cases c16 : a0_2 ≤ (wrap64 (1048576 - a0_0))
       ·rw [if_pos c16] at H
        have c16b0 : decide (a0_2 ≤ (wrap64 (1048576 - a0_0))) = true := decide_eq_true c16
        clear c16
        obtain rfl := Option.some.inj H
        go_enter Try.func41, Try.ntmps41
        go_wp2_with (first | ((with_reducible refine gate_dst (N := 1) rfl ?_); refine box_event ?hg (N := 1) ?hd (cs := #[.int .i64 a0_0, .int .i64 a0_1, .int .i64 a0_2, .int .i64 a0_3]) (t := 34) ?hr ?_; (case hd => rfl); (case hg => rfl); (case hr => first | (go_simp; done) | (go_simp; rfl)); intro gb482 hg w17 hbox hb; have GW482 := zg HB hg; have GE482 := zg HB hg; have n0_ := Aside0.mk (hbox); replace HB := zb HB hb; have BK482 := n0_; clear n0_; clear hb hbox hg; obtain ⟨hcz18_0, hcz18_1, hcz18_2, hcz18_3, hfz18_0, hfz18_1, hfz18_2, hfz18_3⟩ := zq4 BK482))
        go_ret
        exact ⟨by first | rfl | (simp [errW_none, errW_some] <;> rfl) | (simp [*, errW_none, errW_some] <;> rfl), by exact zb0 HB⟩
       ·rw [if_neg c16] at H
        have c16b0 : decide (a0_2 ≤ (wrap64 (1048576 - a0_0))) = false := decide_eq_false c16
        clear c16
        obtain rfl := Option.some.inj H
        go_enter Try.func41, Try.ntmps41
        go_wp2_with (first | ((with_reducible refine gate_dst (N := 1) rfl ?_); refine box_event ?hg (N := 1) ?hd (cs := #[.int .i64 a0_0, .int .i64 a0_1, .int .i64 a0_2, .int .i64 a0_3]) (t := 34) ?hr ?_; (case hd => rfl); (case hg => rfl); (case hr => first | (go_simp; done) | (go_simp; rfl)); intro gb482 hg w19 hbox hb; have GW482 := zg HB hg; have GE482 := zg HB hg; have n0_ := Aside0.mk (hbox); replace HB := zb HB hb; have BK482 := n0_; clear n0_; clear hb hbox hg; obtain ⟨hcz20_0, hcz20_1, hcz20_2, hcz20_3, hfz20_0, hfz20_1, hfz20_2, hfz20_3⟩ := zq4 BK482))
        go_ret
        exact ⟨by first | rfl | (simp [errW_none, errW_some] <;> rfl) | (simp [*, errW_none, errW_some] <;> rfl), by exact zb0 HB⟩
      ·rw [if_neg c15] at H
       have c15b0 : decide (0 ≤ a0_3) = false := decide_eq_false c15
       clear c15
       obtain rfl := Option.some.inj H
       go_enter Try.func41, Try.ntmps41
       go_wp2_with (first | ((with_reducible refine gate_dst (N := 1) rfl ?_); refine box_event ?hg (N := 1) ?hd (cs := #[.int .i64 a0_0, .int .i64 a0_1, .int .i64 a0_2, .int .i64 a0_3]) (t := 34) ?hr ?_; (case hd => rfl); (case hg => rfl); (case hr => first | (go_simp; done) | (go_simp; rfl)); intro gb482 hg w21 hbox hb; have GW482 := zg HB hg; have GE482 := zg HB hg; have n0_ := Aside0.mk (hbox); replace HB := zb HB hb; have BK482 := n0_; clear n0_; clear hb hbox hg; obtain ⟨hcz22_0, hcz22_1, hcz22_2, hcz22_3, hfz22_0, hfz22_1, hfz22_2, hfz22_3⟩ := zq4 BK482))
       go_ret
       exact ⟨by first | rfl | (simp [errW_none, errW_some] <;> rfl) | (simp [*, errW_none, errW_some] <;> rfl), by exact zb0 HB⟩
     ·rw [if_neg c14] at H
      have c14b0 : decide (0 ≤ a0_2) = false := decide_eq_false c14
      clear c14
      obtain rfl := Option.some.inj H
      go_enter Try.func41, Try.ntmps41
      go_wp2_with (first | ((with_reducible refine gate_dst (N := 1) rfl ?_); refine box_event ?hg (N := 1) ?hd (cs := #[.int .i64 a0_0, .int .i64 a0_1, .int .i64 a0_2, .int .i64 a0_3]) (t := 34) ?hr ?_; (case hd => rfl); (case hg => rfl); (case hr => first | (go_simp; done) | (go_simp; rfl)); intro gb482 hg w23 hbox hb; have GW482 := zg HB hg; have GE482 := zg HB hg; have n0_ := Aside0.mk (hbox); replace HB := zb HB hb; have BK482 := n0_; clear n0_; clear hb hbox hg; obtain ⟨hcz24_0, hcz24_1, hcz24_2, hcz24_3, hfz24_0, hfz24_1, hfz24_2, hfz24_3⟩ := zq4 BK482))
      go_ret
      exact ⟨by first | rfl | (simp [errW_none, errW_some] <;> rfl) | (simp [*, errW_none, errW_some] <;> rfl), by exact zb0 HB⟩

/-! ### imageeditorref02_Empty: function 42 -/
def imageeditorref02_Empty.f (a0_0 : Int) (a0_1 : Int) (a0_2 : Int) (a0_3 : Int) : Option (Bool) := (imageeditorref02_Valid.f a0_0 a0_1 a0_2 a0_3).bind fun t484 => (if t484 = true then (if a0_2 = 0 then (some true) else (some (a0_3 == 0))) else (some true))
set_option maxHeartbeats 8000000 in
set_option maxRecDepth 100000 in
theorem imageeditorref02_Empty.calls (a0_0 : Int) (a0_1 : Int) (a0_2 : Int) (a0_3 : Int) (r : Bool) (w : World) (h : imageeditorref02_Empty.f a0_0 a0_1 a0_2 a0_3 = some r) :
  Calls Try.prog 42 #[.agg #[.int .i64 a0_0, .int .i64 a0_1, .int .i64 a0_2, .int .i64 a0_3]] w fun e w' => e = .returned (.bool r) ∧ Below w.heap.size w w' := by
 have hu34 := Try.underlying34
 have HB := Aside0.mk (Below.refl w.heap.size w)
 have H : ((imageeditorref02_Valid.f a0_0 a0_1 a0_2 a0_3).bind fun t484 => (if t484 = true then (if a0_2 = 0 then (some true) else (some (a0_3 == 0))) else (some true))) = some r := h
 clear h
 replace H := Option.bind_eq_some_iff.mp H
 obtain ⟨t484, A20, H⟩ := H
 replace H : (if t484 = true then (if a0_2 = 0 then (some true) else (some (a0_3 == 0))) else (some true)) = some r := H
 have A2 := Aside0.mk A20
 clear A20
 by_cases c3 : t484 = true
 ·subst c3
  have H1 : (if a0_2 = 0 then (some true) else (some (a0_3 == 0))) = some r := by rw [if_pos rfl] at H; exact H
  clear H
  have H := H1
  clear H1
  by_cases c4 : a0_2 = 0
  ·rw [if_pos c4] at H
   have c4b0 : (a0_2 == 0) = true := beq_iff_eq.mpr c4
   have c4b1 : (a0_2 != 0) = false := bne_eq_false_iff_eq.mpr c4
   clear c4
   obtain rfl := Option.some.inj H
   go_enter Try.func42, Try.ntmps42
   go_wp2_with (first | ((with_reducible refine gate_dst (N := 1) rfl ?_); refine box_event ?hg (N := 1) ?hd (cs := #[.int .i64 a0_0, .int .i64 a0_1, .int .i64 a0_2, .int .i64 a0_3]) (t := 34) ?hr ?_; (case hd => rfl); (case hg => rfl); (case hr => first | (go_simp; done) | (go_simp; rfl)); intro gb483 hg w5 hbox hb; have GW483 := zg HB hg; have GE483 := zg HB hg; have n0_ := Aside0.mk (hbox); replace HB := zb HB hb; have BK483 := n0_; clear n0_; clear hb hbox hg; obtain ⟨hcz6_0, hcz6_1, hcz6_2, hcz6_3, hfz6_0, hfz6_1, hfz6_2, hfz6_3⟩ := zq4 BK483) | ((with_reducible refine gate_callee (f := 41) rfl ?_); refine goesL_ (some 4) rfl rfl Try.func41 (by kernel_rfl) rfl #[.agg #[.int .i64 a0_0, .int .i64 a0_1, .int .i64 a0_2, .int .i64 a0_3]] rfl (by (try simp only [List.map_toArray, List.map_cons, List.map_nil]); first | done | rfl | (simp only [List.length_drop, List.length_take]; rfl)) ?_; (with_reducible refine (imageeditorref02_Valid.calls a0_0 a0_1 a0_2 a0_3 true _ A2.out).mono ?_); rintro e w7 ⟨rfl, hb⟩; refine ⟨_, rfl, ?_⟩; replace BK483 := zk BK483 hb; replace HB := zb HB hb; (try clear hb); (try clear hb2); (try clear hk); (try clear hi); obtain ⟨hcz8_0, hcz8_1, hcz8_2, hcz8_3, hfz8_0, hfz8_1, hfz8_2, hfz8_3⟩ := zq4 BK483))
   go_ret
   exact ⟨by first | rfl | (simp [errW_none, errW_some] <;> rfl) | (simp [*, errW_none, errW_some] <;> rfl), by exact zb0 HB⟩
  ·rw [if_neg c4] at H
   have c4b0 : (a0_2 == 0) = false := beq_eq_false_iff_ne.mpr c4
   have c4b1 : (a0_2 != 0) = true := bne_iff_ne.mpr c4
   obtain rfl := Option.some.inj H
   go_enter Try.func42, Try.ntmps42
   go_wp2_with (first | ((with_reducible refine gate_dst (N := 1) rfl ?_); refine box_event ?hg (N := 1) ?hd (cs := #[.int .i64 a0_0, .int .i64 a0_1, .int .i64 a0_2, .int .i64 a0_3]) (t := 34) ?hr ?_; (case hd => rfl); (case hg => rfl); (case hr => first | (go_simp; done) | (go_simp; rfl)); intro gb483 hg w9 hbox hb; have GW483 := zg HB hg; have GE483 := zg HB hg; have n0_ := Aside0.mk (hbox); replace HB := zb HB hb; have BK483 := n0_; clear n0_; clear hb hbox hg; obtain ⟨hcz10_0, hcz10_1, hcz10_2, hcz10_3, hfz10_0, hfz10_1, hfz10_2, hfz10_3⟩ := zq4 BK483) | ((with_reducible refine gate_callee (f := 41) rfl ?_); refine goesL_ (some 4) rfl rfl Try.func41 (by kernel_rfl) rfl #[.agg #[.int .i64 a0_0, .int .i64 a0_1, .int .i64 a0_2, .int .i64 a0_3]] rfl (by (try simp only [List.map_toArray, List.map_cons, List.map_nil]); first | done | rfl | (simp only [List.length_drop, List.length_take]; rfl)) ?_; (with_reducible refine (imageeditorref02_Valid.calls a0_0 a0_1 a0_2 a0_3 true _ A2.out).mono ?_); rintro e w11 ⟨rfl, hb⟩; refine ⟨_, rfl, ?_⟩; replace BK483 := zk BK483 hb; replace HB := zb HB hb; (try clear hb); (try clear hb2); (try clear hk); (try clear hi); obtain ⟨hcz12_0, hcz12_1, hcz12_2, hcz12_3, hfz12_0, hfz12_1, hfz12_2, hfz12_3⟩ := zq4 BK483))
   go_ret
   exact ⟨by first | rfl | (simp [errW_none, errW_some] <;> rfl) | (simp [*, errW_none, errW_some] <;> rfl), by exact zb0 HB⟩
 ·replace c3 := Bool.eq_false_iff.mpr c3
  subst c3
  have H1 : (some true) = some r := by rw [if_neg (show ¬ (false = true) by decide)] at H; exact H
  clear H
  have H := H1
  clear H1
  obtain rfl := Option.some.inj H
  go_enter Try.func42, Try.ntmps42
  go_wp2_with (first | ((with_reducible refine gate_dst (N := 1) rfl ?_); refine box_event ?hg (N := 1) ?hd (cs := #[.int .i64 a0_0, .int .i64 a0_1, .int .i64 a0_2, .int .i64 a0_3]) (t := 34) ?hr ?_; (case hd => rfl); (case hg => rfl); (case hr => first | (go_simp; done) | (go_simp; rfl)); intro gb483 hg w13 hbox hb; have GW483 := zg HB hg; have GE483 := zg HB hg; have n0_ := Aside0.mk (hbox); replace HB := zb HB hb; have BK483 := n0_; clear n0_; clear hb hbox hg; obtain ⟨hcz14_0, hcz14_1, hcz14_2, hcz14_3, hfz14_0, hfz14_1, hfz14_2, hfz14_3⟩ := zq4 BK483) | ((with_reducible refine gate_callee (f := 41) rfl ?_); refine goesL_ (some 4) rfl rfl Try.func41 (by kernel_rfl) rfl #[.agg #[.int .i64 a0_0, .int .i64 a0_1, .int .i64 a0_2, .int .i64 a0_3]] rfl (by (try simp only [List.map_toArray, List.map_cons, List.map_nil]); first | done | rfl | (simp only [List.length_drop, List.length_take]; rfl)) ?_; (with_reducible refine (imageeditorref02_Valid.calls a0_0 a0_1 a0_2 a0_3 false _ A2.out).mono ?_); rintro e w15 ⟨rfl, hb⟩; refine ⟨_, rfl, ?_⟩; replace BK483 := zk BK483 hb; replace HB := zb HB hb; (try clear hb); (try clear hb2); (try clear hk); (try clear hi)))
  go_ret
  exact ⟨by first | rfl | (simp [errW_none, errW_some] <;> rfl) | (simp [*, errW_none, errW_some] <;> rfl), by exact zb0 HB⟩

/-! ### imageeditorref02_span: function 73 -/
def imageeditorref02_span.j0 : Nat → Int → Bool → Int → Int → Int → Int → Option (Int × Int)
 | 0, _, _, _, _, _, _ => none
 | k + 1, x1, x18, x486000, x486001, x486002, x486003 => if x18 = true then (some (0, (-1))) else (if x1 = 0 then (some (x486000, wrap64 ((wrap64 (x486000 + x486002)) - 1))) else (some (x486001, wrap64 ((wrap64 (x486001 + x486003)) - 1))))
def imageeditorref02_span.f (k : Nat) (a0_0 : Int) (a0_1 : Int) (a0_2 : Int) (a0_3 : Int) (a1 : Int) : Option (Int × Int) := (imageeditorref02_Valid.f a0_0 a0_1 a0_2 a0_3).bind fun t486 => (if t486 = true then (if a0_2 = 0 then (imageeditorref02_span.j0 k a1 true a0_0 a0_1 a0_2 a0_3) else (imageeditorref02_span.j0 k a1 (a0_3 == 0) a0_0 a0_1 a0_2 a0_3)) else (imageeditorref02_span.j0 k a1 true a0_0 a0_1 a0_2 a0_3))
theorem imageeditorref02_span.mono_l : ∀ k, (∀ y0 y1 y2 y3 y4 y5, LeO (imageeditorref02_span.j0 k y0 y1 y2 y3 y4 y5) (imageeditorref02_span.j0 (k + 1) y0 y1 y2 y3 y4 y5))
 | 0 => fun _ _ _ _ _ _ r h => by simp [imageeditorref02_span.j0] at h
 | k + 1 => by
  have ih0 := imageeditorref02_span.mono_l k
  ·intro y0 y1 y2 y3 y4 y5
   unfold imageeditorref02_span.j0
   repeat' first
   | (with_reducible exact ih0 _ _ _ _ _ _)
   | (with_reducible exact LeO.refl _)
   | (with_reducible exact LeO.none _)
   | (with_reducible refine LeO.ite ?_ ?_)
   | (with_reducible refine LeO.bind ?_ (fun _ => ?_))
   | exact ih0 _ _ _ _ _ _
   | exact LeO.none _
   | refine LeO.ite ?_ ?_
   | refine LeO.bind ?_ (fun _ => ?_)
theorem imageeditorref02_span.mono : ∀ a0 a1 a2 a3 a4 k, LeO (imageeditorref02_span.f k a0 a1 a2 a3 a4) (imageeditorref02_span.f (k + 1) a0 a1 a2 a3 a4) := by
 intro a0 a1 a2 a3 a4 k
 have ih0 := imageeditorref02_span.mono_l k
 unfold imageeditorref02_span.f
 repeat' first
   | (with_reducible exact ih0 _ _ _ _ _ _)
   | (with_reducible exact LeO.refl _)
   | (with_reducible exact LeO.none _)
   | (with_reducible refine LeO.ite ?_ ?_)
   | (with_reducible refine LeO.bind ?_ (fun _ => ?_))
   | exact ih0 _ _ _ _ _ _
   | exact LeO.none _
   | refine LeO.ite ?_ ?_
   | refine LeO.bind ?_ (fun _ => ?_)
set_option maxHeartbeats 8000000 in
set_option maxRecDepth 100000 in
theorem imageeditorref02_span.calls (k : Nat) (a0_0 : Int) (a0_1 : Int) (a0_2 : Int) (a0_3 : Int) (a1 : Int) (r1 : Int) (r2 : Int) (w : World) (h : imageeditorref02_span.f k a0_0 a0_1 a0_2 a0_3 a1 = some (r1, r2)) :
  Calls Try.prog 73 #[.agg #[.int .i64 a0_0, .int .i64 a0_1, .int .i64 a0_2, .int .i64 a0_3], .int .i64 a1] w fun e w' => e = .returned (.tuple #[.int .i64 r1, .int .i64 r2]) ∧ Below w.heap.size w w' := by
 have hu34 := Try.underlying34
 have HB := Aside0.mk (Below.refl w.heap.size w)
 have H : ((imageeditorref02_Valid.f a0_0 a0_1 a0_2 a0_3).bind fun t486 => (if t486 = true then (if a0_2 = 0 then (imageeditorref02_span.j0 k a1 true a0_0 a0_1 a0_2 a0_3) else (imageeditorref02_span.j0 k a1 (a0_3 == 0) a0_0 a0_1 a0_2 a0_3)) else (imageeditorref02_span.j0 k a1 true a0_0 a0_1 a0_2 a0_3))) = some (r1, r2) := h
 clear h
 have HC3 := Aside0.mk H
 clear H
 go_enter Try.func73, Try.ntmps73
 go_upto_region 1 with (first | ((with_reducible refine gate_dst (N := 2) rfl ?_); refine box_event ?hg (N := 2) ?hd (cs := #[.int .i64 a0_0, .int .i64 a0_1, .int .i64 a0_2, .int .i64 a0_3]) (t := 34) ?hr ?_; (case hd => rfl); (case hg => rfl); (case hr => first | (go_simp; done) | (go_simp; rfl)); intro gb485 hg w4 hbox hb; have GW485 := zg HB hg; have GE485 := zg HB hg; have n0_ := Aside0.mk (hbox); replace HB := zb HB hb; have BK485 := n0_; clear n0_; clear hb hbox hg))
 repeat (go_quiet (first | ((with_reducible refine gate_dst (N := 2) rfl ?_); refine box_event ?hg (N := 2) ?hd (cs := #[.int .i64 a0_0, .int .i64 a0_1, .int .i64 a0_2, .int .i64 a0_3]) (t := 34) ?hr ?_; (case hd => rfl); (case hg => rfl); (case hr => first | (go_simp; done) | (go_simp; rfl)); intro gb485 hg w4 hbox hb; have GW485 := zg HB hg; have GE485 := zg HB hg; have n0_ := Aside0.mk (hbox); replace HB := zb HB hb; have BK485 := n0_; clear n0_; clear hb hbox hg)); go_upto_region 1 with (first | ((with_reducible refine gate_dst (N := 2) rfl ?_); refine box_event ?hg (N := 2) ?hd (cs := #[.int .i64 a0_0, .int .i64 a0_1, .int .i64 a0_2, .int .i64 a0_3]) (t := 34) ?hr ?_; (case hd => rfl); (case hg => rfl); (case hr => first | (go_simp; done) | (go_simp; rfl)); intro gb485 hg w4 hbox hb; have GW485 := zg HB hg; have GE485 := zg HB hg; have n0_ := Aside0.mk (hbox); replace HB := zb HB hb; have BK485 := n0_; clear n0_; clear hb hbox hg)))
 (try simp only [Act.put, sA, sB, sC])
 go_cut [18] (fun v18 wc => ∃ (kq : Nat) (x18_2 : Bool), v18 = .bool x18_2 ∧ Aside0 (imageeditorref02_span.j0 kq a1 x18_2 a0_0 a0_1 a0_2 a0_3 = some (r1, r2)) ∧ Aside0 (kq ≤ k) ∧ Aside0 (wc.heap[gb485]? = some (.cells #[.int .i64 a0_0, .int .i64 a0_1, .int .i64 a0_2, .int .i64 a0_3] 34 (0, 0))) ∧ Aside0 (Below w.heap.size w wc))
 case first =>
  have H := HC3.out
  clear HC3
  replace H := Option.bind_eq_some_iff.mp H
  obtain ⟨t486, A50, H⟩ := H
  replace H : (if t486 = true then (if a0_2 = 0 then (imageeditorref02_span.j0 k a1 true a0_0 a0_1 a0_2 a0_3) else (imageeditorref02_span.j0 k a1 (a0_3 == 0) a0_0 a0_1 a0_2 a0_3)) else (imageeditorref02_span.j0 k a1 true a0_0 a0_1 a0_2 a0_3)) = some (r1, r2) := H
  have A5 := Aside0.mk A50
  clear A50
  by_cases c6 : t486 = true
  ·subst c6
   have H1 : (if a0_2 = 0 then (imageeditorref02_span.j0 k a1 true a0_0 a0_1 a0_2 a0_3) else (imageeditorref02_span.j0 k a1 (a0_3 == 0) a0_0 a0_1 a0_2 a0_3)) = some (r1, r2) := by rw [if_pos rfl] at H; exact H
   clear H
   have H := H1
   clear H1
   by_cases c7 : a0_2 = 0
   ·rw [if_pos c7] at H
    have c7b0 : (a0_2 == 0) = true := beq_iff_eq.mpr c7
    have c7b1 : (a0_2 != 0) = false := bne_eq_false_iff_eq.mpr c7
    clear c7
    (first | rw [c7b0] | (simp only [i64_w, i32_w]; rw [c7b0]) | skip)
    have H' := Aside0.mk H
    clear H
    obtain ⟨hcz8_0, hcz8_1, hcz8_2, hcz8_3, hfz8_0, hfz8_1, hfz8_2, hfz8_3⟩ := zq4 BK485
    go_wp2_with (first | (go_at_call 41; (with_reducible refine (imageeditorref02_Valid.calls a0_0 a0_1 a0_2 a0_3 true _ A5.out).mono ?_); rintro e w9 ⟨rfl, hb⟩; replace BK485 := zk BK485 hb; replace HB := zb HB hb; (try clear hb); (try clear hb2); (try clear hk); (try clear hi); obtain ⟨hcz10_0, hcz10_1, hcz10_2, hcz10_3, hfz10_0, hfz10_1, hfz10_2, hfz10_3⟩ := zq4 BK485))
    repeat (go_quiet (first | (go_at_call 41; (with_reducible refine (imageeditorref02_Valid.calls a0_0 a0_1 a0_2 a0_3 true _ A5.out).mono ?_); rintro e w9 ⟨rfl, hb⟩; replace BK485 := zk BK485 hb; replace HB := zb HB hb; (try clear hb); (try clear hb2); (try clear hk); (try clear hi); obtain ⟨hcz10_0, hcz10_1, hcz10_2, hcz10_3, hfz10_0, hfz10_1, hfz10_2, hfz10_3⟩ := zq4 BK485)); try go_wp2_with (first | (go_at_call 41; (with_reducible refine (imageeditorref02_Valid.calls a0_0 a0_1 a0_2 a0_3 true _ A5.out).mono ?_); rintro e w9 ⟨rfl, hb⟩; replace BK485 := zk BK485 hb; replace HB := zb HB hb; (try clear hb); (try clear hb2); (try clear hk); (try clear hi); obtain ⟨hcz10_0, hcz10_1, hcz10_2, hcz10_3, hfz10_0, hfz10_1, hfz10_2, hfz10_3⟩ := zq4 BK485)))
    go_meet
    case rel => exact ⟨_, (true), (by first | rfl | (simp; done) | (simp [*]; done)), H', ⟨by first | omega | exact Nat.le_refl _⟩, ⟨by exact zk0 BK485⟩, ⟨by exact zb0 HB⟩⟩
   ·rw [if_neg c7] at H
    have c7b0 : (a0_2 == 0) = false := beq_eq_false_iff_ne.mpr c7
    have c7b1 : (a0_2 != 0) = true := bne_iff_ne.mpr c7
    (first | rw [c7b0] | (simp only [i64_w, i32_w]; rw [c7b0]) | skip)
    have H' := Aside0.mk H
    clear H
    obtain ⟨hcz11_0, hcz11_1, hcz11_2, hcz11_3, hfz11_0, hfz11_1, hfz11_2, hfz11_3⟩ := zq4 BK485
    go_wp2_with (first | (go_at_call 41; (with_reducible refine (imageeditorref02_Valid.calls a0_0 a0_1 a0_2 a0_3 true _ A5.out).mono ?_); rintro e w12 ⟨rfl, hb⟩; replace BK485 := zk BK485 hb; replace HB := zb HB hb; (try clear hb); (try clear hb2); (try clear hk); (try clear hi); obtain ⟨hcz13_0, hcz13_1, hcz13_2, hcz13_3, hfz13_0, hfz13_1, hfz13_2, hfz13_3⟩ := zq4 BK485))
    repeat (go_quiet (first | (go_at_call 41; (with_reducible refine (imageeditorref02_Valid.calls a0_0 a0_1 a0_2 a0_3 true _ A5.out).mono ?_); rintro e w12 ⟨rfl, hb⟩; replace BK485 := zk BK485 hb; replace HB := zb HB hb; (try clear hb); (try clear hb2); (try clear hk); (try clear hi); obtain ⟨hcz13_0, hcz13_1, hcz13_2, hcz13_3, hfz13_0, hfz13_1, hfz13_2, hfz13_3⟩ := zq4 BK485)); try go_wp2_with (first | (go_at_call 41; (with_reducible refine (imageeditorref02_Valid.calls a0_0 a0_1 a0_2 a0_3 true _ A5.out).mono ?_); rintro e w12 ⟨rfl, hb⟩; replace BK485 := zk BK485 hb; replace HB := zb HB hb; (try clear hb); (try clear hb2); (try clear hk); (try clear hi); obtain ⟨hcz13_0, hcz13_1, hcz13_2, hcz13_3, hfz13_0, hfz13_1, hfz13_2, hfz13_3⟩ := zq4 BK485)))
    go_meet
    case rel => exact ⟨_, ((a0_3 == 0)), (by first | rfl | (simp; done) | (simp [*]; done)), H', ⟨by first | omega | exact Nat.le_refl _⟩, ⟨by exact zk0 BK485⟩, ⟨by exact zb0 HB⟩⟩
  ·replace c6 := Bool.eq_false_iff.mpr c6
   subst c6
   have H1 : (imageeditorref02_span.j0 k a1 true a0_0 a0_1 a0_2 a0_3) = some (r1, r2) := by rw [if_neg (show ¬ (false = true) by decide)] at H; exact H
   clear H
   have H := H1
   clear H1
   have H' := Aside0.mk H
   clear H
   obtain ⟨hcz14_0, hcz14_1, hcz14_2, hcz14_3, hfz14_0, hfz14_1, hfz14_2, hfz14_3⟩ := zq4 BK485
   go_wp2_with (first | (go_at_call 41; (with_reducible refine (imageeditorref02_Valid.calls a0_0 a0_1 a0_2 a0_3 false _ A5.out).mono ?_); rintro e w15 ⟨rfl, hb⟩; replace BK485 := zk BK485 hb; replace HB := zb HB hb; (try clear hb); (try clear hb2); (try clear hk); (try clear hi)))
   repeat (go_quiet (first | (go_at_call 41; (with_reducible refine (imageeditorref02_Valid.calls a0_0 a0_1 a0_2 a0_3 false _ A5.out).mono ?_); rintro e w15 ⟨rfl, hb⟩; replace BK485 := zk BK485 hb; replace HB := zb HB hb; (try clear hb); (try clear hb2); (try clear hk); (try clear hi))); try go_wp2_with (first | (go_at_call 41; (with_reducible refine (imageeditorref02_Valid.calls a0_0 a0_1 a0_2 a0_3 false _ A5.out).mono ?_); rintro e w15 ⟨rfl, hb⟩; replace BK485 := zk BK485 hb; replace HB := zb HB hb; (try clear hb); (try clear hb2); (try clear hk); (try clear hi))))
   go_meet
   case rel => exact ⟨_, (true), (by first | rfl | (simp; done) | (simp [*]; done)), H', ⟨by first | omega | exact Nat.le_refl _⟩, ⟨by exact zk0 BK485⟩, ⟨by exact zb0 HB⟩⟩
 case rest =>
  clear HC3
  try clear p2
  try clear q4
  try clear c6
  try clear c7
  try clear c7b0
  try clear c7b1
  try clear hcz10_0
  try clear hcz10_1
  try clear hcz10_2
  try clear hcz10_3
  try clear hcz11_0
  try clear hcz11_1
  try clear hcz11_2
  try clear hcz11_3
  try clear hcz13_0
  try clear hcz13_1
  try clear hcz13_2
  try clear hcz13_3
  try clear hcz14_0
  try clear hcz14_1
  try clear hcz14_2
  try clear hcz14_3
  try clear hcz8_0
  try clear hcz8_1
  try clear hcz8_2
  try clear hcz8_3
  try clear hfz10_0
  try clear hfz10_1
  try clear hfz10_2
  try clear hfz10_3
  try clear hfz11_0
  try clear hfz11_1
  try clear hfz11_2
  try clear hfz11_3
  try clear hfz13_0
  try clear hfz13_1
  try clear hfz13_2
  try clear hfz13_3
  try clear hfz14_0
  try clear hfz14_1
  try clear hfz14_2
  try clear hfz14_3
  try clear hfz8_0
  try clear hfz8_1
  try clear hfz8_2
  try clear hfz8_3
  obtain ⟨kq, x18_2, rfl, HA, HJ2, BK485, HB⟩ := hcut
  cases kq with
  | zero => exact absurd HA.out (by simp [imageeditorref02_span.j0])
  | succ kj2 =>
   have H := HA.out
   clear HA
   simp only [imageeditorref02_span.j0] at H
   by_cases c16 : x18_2 = true
   ·subst c16
    have H1 : (some (0, (-1))) = some (r1, r2) := by rw [if_pos rfl] at H; exact H
    clear H
    have H := H1
    clear H1
    simp only [Option.some.injEq, Prod.mk.injEq] at H
    obtain ⟨rfl, rfl⟩ := H
    go_wp2
    repeat (go_quiet (fail); try go_wp2)
    go_ret2
    exact ⟨by first | rfl | (simp [errW_none, errW_some] <;> rfl) | (simp [*, errW_none, errW_some] <;> rfl), by exact zb0 HB⟩
   ·replace c16 := Bool.eq_false_iff.mpr c16
    subst c16
    have H1 : (if a1 = 0 then (some (a0_0, wrap64 ((wrap64 (a0_0 + a0_2)) - 1))) else (some (a0_1, wrap64 ((wrap64 (a0_1 + a0_3)) - 1)))) = some (r1, r2) := by rw [if_neg (show ¬ (false = true) by decide)] at H; exact H
    clear H
    have H := H1
    clear H1
    by_cases c17 : a1 = 0
    ·rw [if_pos c17] at H
     have c17b0 : (a1 == 0) = true := beq_iff_eq.mpr c17
     have c17b1 : (a1 != 0) = false := bne_eq_false_iff_eq.mpr c17
     clear c17
     simp only [Option.some.injEq, Prod.mk.injEq] at H
     obtain ⟨rfl, rfl⟩ := H
     obtain ⟨hcz18_0, hcz18_1, hcz18_2, hcz18_3, hfz18_0, hfz18_1, hfz18_2, hfz18_3⟩ := zq4 BK485
     go_wp2
     repeat (go_quiet (fail); try go_wp2)
     go_ret2
     exact ⟨by first | rfl | (simp [errW_none, errW_some] <;> rfl) | (simp [*, errW_none, errW_some] <;> rfl), by exact zb0 HB⟩
    ·rw [if_neg c17] at H
     have c17b0 : (a1 == 0) = false := beq_eq_false_iff_ne.mpr c17
     have c17b1 : (a1 != 0) = true := bne_iff_ne.mpr c17
     simp only [Option.some.injEq, Prod.mk.injEq] at H
     obtain ⟨rfl, rfl⟩ := H
     obtain ⟨hcz19_0, hcz19_1, hcz19_2, hcz19_3, hfz19_0, hfz19_1, hfz19_2, hfz19_3⟩ := zq4 BK485
     go_wp2
     repeat (go_quiet (fail); try go_wp2)
     go_ret2
     exact ⟨by first | rfl | (simp [errW_none, errW_some] <;> rfl) | (simp [*, errW_none, errW_some] <;> rfl), by exact zb0 HB⟩

/-! ### imageeditorref02_Has: function 74 -/
def imageeditorref02_Has.f (k : Nat) (a0_0 : Int) (a0_1 : Int) (a0_2 : Int) (a0_3 : Int) (a1_0 : Int) (a1_1 : Int) : Option (Bool) := (imageeditorref02_span.f k a0_0 a0_1 a0_2 a0_3 0).bind fun bt489 => ((imageeditorref02_span.f k a0_0 a0_1 a0_2 a0_3 1).bind fun bt491 => (if a1_0 ≥ bt489.1 then (if a1_0 ≤ bt489.2 then (if a1_1 ≥ bt491.1 then (some (decide (a1_1 ≤ bt491.2))) else (some false)) else (some false)) else (some false)))
theorem imageeditorref02_Has.mono : ∀ a0 a1 a2 a3 a4 a5 k, LeO (imageeditorref02_Has.f k a0 a1 a2 a3 a4 a5) (imageeditorref02_Has.f (k + 1) a0 a1 a2 a3 a4 a5) := by
 intro a0 a1 a2 a3 a4 a5 k
 unfold imageeditorref02_Has.f
 repeat' first
   | (with_reducible exact imageeditorref02_span.mono _ _ _ _ _ _)
   | (with_reducible exact LeO.refl _)
   | (with_reducible exact LeO.none _)
   | (with_reducible refine LeO.ite ?_ ?_)
   | (with_reducible refine LeO.bind ?_ (fun _ => ?_))
   | exact imageeditorref02_span.mono _ _ _ _ _ _
   | exact LeO.none _
   | refine LeO.ite ?_ ?_
   | refine LeO.bind ?_ (fun _ => ?_)
set_option maxHeartbeats 8000000 in
set_option maxRecDepth 100000 in
theorem imageeditorref02_Has.calls (k : Nat) (a0_0 : Int) (a0_1 : Int) (a0_2 : Int) (a0_3 : Int) (a1_0 : Int) (a1_1 : Int) (r : Bool) (w : World) (h : imageeditorref02_Has.f k a0_0 a0_1 a0_2 a0_3 a1_0 a1_1 = some r) :
  Calls Try.prog 74 #[.agg #[.int .i64 a0_0, .int .i64 a0_1, .int .i64 a0_2, .int .i64 a0_3], .agg #[.int .i64 a1_0, .int .i64 a1_1]] w fun e w' => e = .returned (.bool r) ∧ Below w.heap.size w w' := by
 have hu34 := Try.underlying34
 have hu28 := Try.underlying28
 have HB := Aside0.mk (Below.refl w.heap.size w)
 have H : ((imageeditorref02_span.f k a0_0 a0_1 a0_2 a0_3 0).bind fun bt489 => ((imageeditorref02_span.f k a0_0 a0_1 a0_2 a0_3 1).bind fun bt491 => (if a1_0 ≥ bt489.1 then (if a1_0 ≤ bt489.2 then (if a1_1 ≥ bt491.1 then (some (decide (a1_1 ≤ bt491.2))) else (some false)) else (some false)) else (some false)))) = some r := h
 clear h
 replace H := Option.bind_eq_some_iff.mp H
 obtain ⟨⟨t489, t490⟩, A30, H⟩ := H
 replace H : ((imageeditorref02_span.f k a0_0 a0_1 a0_2 a0_3 1).bind fun bt491 => (if a1_0 ≥ t489 then (if a1_0 ≤ t490 then (if a1_1 ≥ bt491.1 then (some (decide (a1_1 ≤ bt491.2))) else (some false)) else (some false)) else (some false))) = some r := H
 have A3 := Aside0.mk A30
 clear A30
 replace H := Option.bind_eq_some_iff.mp H
 obtain ⟨⟨t491, t492⟩, A40, H⟩ := H
 replace H : (if a1_0 ≥ t489 then (if a1_0 ≤ t490 then (if a1_1 ≥ t491 then (some (decide (a1_1 ≤ t492))) else (some false)) else (some false)) else (some false)) = some r := H
 have A4 := Aside0.mk A40
 clear A40
 by_cases c5 : a1_0 ≥ t489
 ·rw [if_pos c5] at H
  have c5b0 : decide (t489 ≤ a1_0) = true := decide_eq_true c5
  clear c5
  by_cases c6 : a1_0 ≤ t490
  ·rw [if_pos c6] at H
   have c6b0 : decide (a1_0 ≤ t490) = true := decide_eq_true c6
   clear c6
   by_cases c7 : a1_1 ≥ t491
   ·rw [if_pos c7] at H
    have c7b0 : decide (t491 ≤ a1_1) = true := decide_eq_true c7
    clear c7
    obtain rfl := Option.some.inj H
    go_enter Try.func74, Try.ntmps74
    go_wp2_with (first | ((with_reducible refine gate_dst (N := 2) rfl ?_); refine box_event ?hg (N := 2) ?hd (cs := #[.int .i64 a0_0, .int .i64 a0_1, .int .i64 a0_2, .int .i64 a0_3]) (t := 34) ?hr ?_; (case hd => rfl); (case hg => rfl); (case hr => first | (go_simp; done) | (go_simp; rfl)); intro gb487 hg w8 hbox hb; have GW487 := zg HB hg; have GE487 := zg HB hg; have n0_ := Aside0.mk (hbox); replace HB := zb HB hb; have BK487 := n0_; clear n0_; clear hb hbox hg) | ((with_reducible refine gate_dst (N := 3) rfl ?_); refine box_event ?hg (N := 3) ?hd (cs := #[.int .i64 a1_0, .int .i64 a1_1]) (t := 28) ?hr ?_; (case hd => rfl); (case hg => rfl); (case hr => first | (go_simp; done) | (go_simp; rfl)); intro gb488 hg w9 hbox hb; have GW488 := zg HB hg; have GE488 := zg HB hg; have NB487_488 := zn BK487 hg; have NB488_487 := zn' BK487 hg; have n0_ := Aside0.mk (hbox); replace BK487 := zk BK487 hb; replace HB := zb HB hb; have BK488 := n0_; clear n0_; clear hb hbox hg; obtain ⟨hcz10_0, hcz10_1, hcz10_2, hcz10_3, hfz10_0, hfz10_1, hfz10_2, hfz10_3⟩ := zq4 BK487) | ((with_reducible refine gate_callee (f := 73) rfl ?_); refine goesL_ (some 11) rfl rfl Try.func73 (by kernel_rfl) rfl #[.agg #[.int .i64 a0_0, .int .i64 a0_1, .int .i64 a0_2, .int .i64 a0_3], .int .i64 0] rfl (by (try simp only [List.map_toArray, List.map_cons, List.map_nil]); first | done | rfl | (simp only [List.length_drop, List.length_take]; rfl)) ?_; (with_reducible refine (imageeditorref02_span.calls k a0_0 a0_1 a0_2 a0_3 0 t489 t490 _ A3.out).mono ?_); rintro e w11 ⟨rfl, hb⟩; refine ⟨_, rfl, ?_⟩; replace BK487 := zk BK487 hb; replace BK488 := zk BK488 hb; replace HB := zb HB hb; (try clear hb); (try clear hb2); (try clear hk); (try clear hi); obtain ⟨hcz12_0, hcz12_1, hcz12_2, hcz12_3, hfz12_0, hfz12_1, hfz12_2, hfz12_3⟩ := zq4 BK487) | ((with_reducible refine gate_callee (f := 73) rfl ?_); refine goesL_ (some 16) rfl rfl Try.func73 (by kernel_rfl) rfl #[.agg #[.int .i64 a0_0, .int .i64 a0_1, .int .i64 a0_2, .int .i64 a0_3], .int .i64 1] rfl (by (try simp only [List.map_toArray, List.map_cons, List.map_nil]); first | done | rfl | (simp only [List.length_drop, List.length_take]; rfl)) ?_; (with_reducible refine (imageeditorref02_span.calls k a0_0 a0_1 a0_2 a0_3 1 t491 t492 _ A4.out).mono ?_); rintro e w13 ⟨rfl, hb⟩; refine ⟨_, rfl, ?_⟩; replace BK487 := zk BK487 hb; replace BK488 := zk BK488 hb; replace HB := zb HB hb; (try clear hb); (try clear hb2); (try clear hk); (try clear hi); obtain ⟨hcz14_0, hcz14_1, hfz14_0, hfz14_1⟩ := zq2 BK488))
    go_ret
    exact ⟨by first | rfl | (simp [errW_none, errW_some] <;> rfl) | (simp [*, errW_none, errW_some] <;> rfl), by exact zb0 HB⟩
   ·rw [if_neg c7] at H
    have c7b0 : decide (t491 ≤ a1_1) = false := decide_eq_false c7
    clear c7
    obtain rfl := Option.some.inj H
    go_enter Try.func74, Try.ntmps74
    go_wp2_with (first | ((with_reducible refine gate_dst (N := 2) rfl ?_); refine box_event ?hg (N := 2) ?hd (cs := #[.int .i64 a0_0, .int .i64 a0_1, .int .i64 a0_2, .int .i64 a0_3]) (t := 34) ?hr ?_; (case hd => rfl); (case hg => rfl); (case hr => first | (go_simp; done) | (go_simp; rfl)); intro gb487 hg w15 hbox hb; have GW487 := zg HB hg; have GE487 := zg HB hg; have n0_ := Aside0.mk (hbox); replace HB := zb HB hb; have BK487 := n0_; clear n0_; clear hb hbox hg) | ((with_reducible refine gate_dst (N := 3) rfl ?_); refine box_event ?hg (N := 3) ?hd (cs := #[.int .i64 a1_0, .int .i64 a1_1]) (t := 28) ?hr ?_; (case hd => rfl); (case hg => rfl); (case hr => first | (go_simp; done) | (go_simp; rfl)); intro gb488 hg w16 hbox hb; have GW488 := zg HB hg; have GE488 := zg HB hg; have NB487_488 := zn BK487 hg; have NB488_487 := zn' BK487 hg; have n0_ := Aside0.mk (hbox); replace BK487 := zk BK487 hb; replace HB := zb HB hb; have BK488 := n0_; clear n0_; clear hb hbox hg; obtain ⟨hcz17_0, hcz17_1, hcz17_2, hcz17_3, hfz17_0, hfz17_1, hfz17_2, hfz17_3⟩ := zq4 BK487) | ((with_reducible refine gate_callee (f := 73) rfl ?_); refine goesL_ (some 11) rfl rfl Try.func73 (by kernel_rfl) rfl #[.agg #[.int .i64 a0_0, .int .i64 a0_1, .int .i64 a0_2, .int .i64 a0_3], .int .i64 0] rfl (by (try simp only [List.map_toArray, List.map_cons, List.map_nil]); first | done | rfl | (simp only [List.length_drop, List.length_take]; rfl)) ?_; (with_reducible refine (imageeditorref02_span.calls k a0_0 a0_1 a0_2 a0_3 0 t489 t490 _ A3.out).mono ?_); rintro e w18 ⟨rfl, hb⟩; refine ⟨_, rfl, ?_⟩; replace BK487 := zk BK487 hb; replace BK488 := zk BK488 hb; replace HB := zb HB hb; (try clear hb); (try clear hb2); (try clear hk); (try clear hi); obtain ⟨hcz19_0, hcz19_1, hcz19_2, hcz19_3, hfz19_0, hfz19_1, hfz19_2, hfz19_3⟩ := zq4 BK487) | ((with_reducible refine gate_callee (f := 73) rfl ?_); refine goesL_ (some 16) rfl rfl Try.func73 (by kernel_rfl) rfl #[.agg #[.int .i64 a0_0, .int .i64 a0_1, .int .i64 a0_2, .int .i64 a0_3], .int .i64 1] rfl (by (try simp only [List.map_toArray, List.map_cons, List.map_nil]); first | done | rfl | (simp only [List.length_drop, List.length_take]; rfl)) ?_; (with_reducible refine (imageeditorref02_span.calls k a0_0 a0_1 a0_2 a0_3 1 t491 t492 _ A4.out).mono ?_); rintro e w20 ⟨rfl, hb⟩; refine ⟨_, rfl, ?_⟩; replace BK487 := zk BK487 hb; replace BK488 := zk BK488 hb; replace HB := zb HB hb; (try clear hb); (try clear hb2); (try clear hk); (try clear hi); obtain ⟨hcz21_0, hcz21_1, hfz21_0, hfz21_1⟩ := zq2 BK488))
    go_ret
    exact ⟨by first | rfl | (simp [errW_none, errW_some] <;> rfl) | (simp [*, errW_none, errW_some] <;> rfl), by exact zb0 HB⟩
  ·rw [if_neg c6] at H
   have c6b0 : decide (a1_0 ≤ t490) = false := decide_eq_false c6
   clear c6
   obtain rfl := Option.some.inj H
   go_enter Try.func74, Try.ntmps74
   go_wp2_with (first | ((with_reducible refine gate_dst (N := 2) rfl ?_); refine box_event ?hg (N := 2) ?hd (cs := #[.int .i64 a0_0, .int .i64 a0_1, .int .i64 a0_2, .int .i64 a0_3]) (t := 34) ?hr ?_; (case hd => rfl); (case hg => rfl); (case hr => first | (go_simp; done) | (go_simp; rfl)); intro gb487 hg w22 hbox hb; have GW487 := zg HB hg; have GE487 := zg HB hg; have n0_ := Aside0.mk (hbox); replace HB := zb HB hb; have BK487 := n0_; clear n0_; clear hb hbox hg) | ((with_reducible refine gate_dst (N := 3) rfl ?_); refine box_event ?hg (N := 3) ?hd (cs := #[.int .i64 a1_0, .int .i64 a1_1]) (t := 28) ?hr ?_; (case hd => rfl); (case hg => rfl); (case hr => first | (go_simp; done) | (go_simp; rfl)); intro gb488 hg w23 hbox hb; have GW488 := zg HB hg; have GE488 := zg HB hg; have NB487_488 := zn BK487 hg; have NB488_487 := zn' BK487 hg; have n0_ := Aside0.mk (hbox); replace BK487 := zk BK487 hb; replace HB := zb HB hb; have BK488 := n0_; clear n0_; clear hb hbox hg; obtain ⟨hcz24_0, hcz24_1, hcz24_2, hcz24_3, hfz24_0, hfz24_1, hfz24_2, hfz24_3⟩ := zq4 BK487) | ((with_reducible refine gate_callee (f := 73) rfl ?_); refine goesL_ (some 11) rfl rfl Try.func73 (by kernel_rfl) rfl #[.agg #[.int .i64 a0_0, .int .i64 a0_1, .int .i64 a0_2, .int .i64 a0_3], .int .i64 0] rfl (by (try simp only [List.map_toArray, List.map_cons, List.map_nil]); first | done | rfl | (simp only [List.length_drop, List.length_take]; rfl)) ?_; (with_reducible refine (imageeditorref02_span.calls k a0_0 a0_1 a0_2 a0_3 0 t489 t490 _ A3.out).mono ?_); rintro e w25 ⟨rfl, hb⟩; refine ⟨_, rfl, ?_⟩; replace BK487 := zk BK487 hb; replace BK488 := zk BK488 hb; replace HB := zb HB hb; (try clear hb); (try clear hb2); (try clear hk); (try clear hi); obtain ⟨hcz26_0, hcz26_1, hcz26_2, hcz26_3, hfz26_0, hfz26_1, hfz26_2, hfz26_3⟩ := zq4 BK487) | ((with_reducible refine gate_callee (f := 73) rfl ?_); refine goesL_ (some 16) rfl rfl Try.func73 (by kernel_rfl) rfl #[.agg #[.int .i64 a0_0, .int .i64 a0_1, .int .i64 a0_2, .int .i64 a0_3], .int .i64 1] rfl (by (try simp only [List.map_toArray, List.map_cons, List.map_nil]); first | done | rfl | (simp only [List.length_drop, List.length_take]; rfl)) ?_; (with_reducible refine (imageeditorref02_span.calls k a0_0 a0_1 a0_2 a0_3 1 t491 t492 _ A4.out).mono ?_); rintro e w27 ⟨rfl, hb⟩; refine ⟨_, rfl, ?_⟩; replace BK487 := zk BK487 hb; replace BK488 := zk BK488 hb; replace HB := zb HB hb; (try clear hb); (try clear hb2); (try clear hk); (try clear hi); obtain ⟨hcz28_0, hcz28_1, hfz28_0, hfz28_1⟩ := zq2 BK488))
   go_ret
   exact ⟨by first | rfl | (simp [errW_none, errW_some] <;> rfl) | (simp [*, errW_none, errW_some] <;> rfl), by exact zb0 HB⟩
 ·rw [if_neg c5] at H
  have c5b0 : decide (t489 ≤ a1_0) = false := decide_eq_false c5
  clear c5
  obtain rfl := Option.some.inj H
  go_enter Try.func74, Try.ntmps74
  go_wp2_with (first | ((with_reducible refine gate_dst (N := 2) rfl ?_); refine box_event ?hg (N := 2) ?hd (cs := #[.int .i64 a0_0, .int .i64 a0_1, .int .i64 a0_2, .int .i64 a0_3]) (t := 34) ?hr ?_; (case hd => rfl); (case hg => rfl); (case hr => first | (go_simp; done) | (go_simp; rfl)); intro gb487 hg w29 hbox hb; have GW487 := zg HB hg; have GE487 := zg HB hg; have n0_ := Aside0.mk (hbox); replace HB := zb HB hb; have BK487 := n0_; clear n0_; clear hb hbox hg) | ((with_reducible refine gate_dst (N := 3) rfl ?_); refine box_event ?hg (N := 3) ?hd (cs := #[.int .i64 a1_0, .int .i64 a1_1]) (t := 28) ?hr ?_; (case hd => rfl); (case hg => rfl); (case hr => first | (go_simp; done) | (go_simp; rfl)); intro gb488 hg w30 hbox hb; have GW488 := zg HB hg; have GE488 := zg HB hg; have NB487_488 := zn BK487 hg; have NB488_487 := zn' BK487 hg; have n0_ := Aside0.mk (hbox); replace BK487 := zk BK487 hb; replace HB := zb HB hb; have BK488 := n0_; clear n0_; clear hb hbox hg; obtain ⟨hcz31_0, hcz31_1, hcz31_2, hcz31_3, hfz31_0, hfz31_1, hfz31_2, hfz31_3⟩ := zq4 BK487) | ((with_reducible refine gate_callee (f := 73) rfl ?_); refine goesL_ (some 11) rfl rfl Try.func73 (by kernel_rfl) rfl #[.agg #[.int .i64 a0_0, .int .i64 a0_1, .int .i64 a0_2, .int .i64 a0_3], .int .i64 0] rfl (by (try simp only [List.map_toArray, List.map_cons, List.map_nil]); first | done | rfl | (simp only [List.length_drop, List.length_take]; rfl)) ?_; (with_reducible refine (imageeditorref02_span.calls k a0_0 a0_1 a0_2 a0_3 0 t489 t490 _ A3.out).mono ?_); rintro e w32 ⟨rfl, hb⟩; refine ⟨_, rfl, ?_⟩; replace BK487 := zk BK487 hb; replace BK488 := zk BK488 hb; replace HB := zb HB hb; (try clear hb); (try clear hb2); (try clear hk); (try clear hi); obtain ⟨hcz33_0, hcz33_1, hcz33_2, hcz33_3, hfz33_0, hfz33_1, hfz33_2, hfz33_3⟩ := zq4 BK487) | ((with_reducible refine gate_callee (f := 73) rfl ?_); refine goesL_ (some 16) rfl rfl Try.func73 (by kernel_rfl) rfl #[.agg #[.int .i64 a0_0, .int .i64 a0_1, .int .i64 a0_2, .int .i64 a0_3], .int .i64 1] rfl (by (try simp only [List.map_toArray, List.map_cons, List.map_nil]); first | done | rfl | (simp only [List.length_drop, List.length_take]; rfl)) ?_; (with_reducible refine (imageeditorref02_span.calls k a0_0 a0_1 a0_2 a0_3 1 t491 t492 _ A4.out).mono ?_); rintro e w34 ⟨rfl, hb⟩; refine ⟨_, rfl, ?_⟩; replace BK487 := zk BK487 hb; replace BK488 := zk BK488 hb; replace HB := zb HB hb; (try clear hb); (try clear hb2); (try clear hk); (try clear hi); obtain ⟨hcz35_0, hcz35_1, hfz35_0, hfz35_1⟩ := zq2 BK488))
  go_ret
  exact ⟨by first | rfl | (simp [errW_none, errW_some] <;> rfl) | (simp [*, errW_none, errW_some] <;> rfl), by exact zb0 HB⟩

/-! ### imageeditorref02_Within: function 43 -/
def imageeditorref02_Within.f (k : Nat) (a0_0 : Int) (a0_1 : Int) (a0_2 : Int) (a0_3 : Int) (a1_0 : Int) (a1_1 : Int) (a1_2 : Int) (a1_3 : Int) : Option (Bool) := (imageeditorref02_Empty.f a0_0 a0_1 a0_2 a0_3).bind fun t495 => (if t495 = true then (some true) else ((imageeditorref02_span.f k a0_0 a0_1 a0_2 a0_3 0).bind fun bt496 => ((imageeditorref02_span.f k a0_0 a0_1 a0_2 a0_3 1).bind fun bt498 => ((imageeditorref02_Has.f k a1_0 a1_1 a1_2 a1_3 bt496.1 bt498.1).bind fun t500 => (if t500 = true then ((imageeditorref02_Has.f k a1_0 a1_1 a1_2 a1_3 bt496.2 bt498.2).bind fun t501 => (some t501)) else (some false))))))
theorem imageeditorref02_Within.mono : ∀ a0 a1 a2 a3 a4 a5 a6 a7 k, LeO (imageeditorref02_Within.f k a0 a1 a2 a3 a4 a5 a6 a7) (imageeditorref02_Within.f (k + 1) a0 a1 a2 a3 a4 a5 a6 a7) := by
 intro a0 a1 a2 a3 a4 a5 a6 a7 k
 unfold imageeditorref02_Within.f
 repeat' first
   | (with_reducible exact imageeditorref02_Has.mono _ _ _ _ _ _ _)
   | (with_reducible exact imageeditorref02_span.mono _ _ _ _ _ _)
   | (with_reducible exact LeO.refl _)
   | (with_reducible exact LeO.none _)
   | (with_reducible refine LeO.ite ?_ ?_)
   | (with_reducible refine LeO.bind ?_ (fun _ => ?_))
   | exact imageeditorref02_Has.mono _ _ _ _ _ _ _
   | exact imageeditorref02_span.mono _ _ _ _ _ _
   | exact LeO.none _
   | refine LeO.ite ?_ ?_
   | refine LeO.bind ?_ (fun _ => ?_)
set_option maxHeartbeats 8000000 in
set_option maxRecDepth 100000 in
theorem imageeditorref02_Within.calls (k : Nat) (a0_0 : Int) (a0_1 : Int) (a0_2 : Int) (a0_3 : Int) (a1_0 : Int) (a1_1 : Int) (a1_2 : Int) (a1_3 : Int) (r : Bool) (w : World) (h : imageeditorref02_Within.f k a0_0 a0_1 a0_2 a0_3 a1_0 a1_1 a1_2 a1_3 = some r) :
  Calls Try.prog 43 #[.agg #[.int .i64 a0_0, .int .i64 a0_1, .int .i64 a0_2, .int .i64 a0_3], .agg #[.int .i64 a1_0, .int .i64 a1_1, .int .i64 a1_2, .int .i64 a1_3]] w fun e w' => e = .returned (.bool r) ∧ Below w.heap.size w w' := by
 have hu34 := Try.underlying34
 have hu28 := Try.underlying28
 have HB := Aside0.mk (Below.refl w.heap.size w)
 have H : ((imageeditorref02_Empty.f a0_0 a0_1 a0_2 a0_3).bind fun t495 => (if t495 = true then (some true) else ((imageeditorref02_span.f k a0_0 a0_1 a0_2 a0_3 0).bind fun bt496 => ((imageeditorref02_span.f k a0_0 a0_1 a0_2 a0_3 1).bind fun bt498 => ((imageeditorref02_Has.f k a1_0 a1_1 a1_2 a1_3 bt496.1 bt498.1).bind fun t500 => (if t500 = true then ((imageeditorref02_Has.f k a1_0 a1_1 a1_2 a1_3 bt496.2 bt498.2).bind fun t501 => (some t501)) else (some false))))))) = some r := h
 clear h
 replace H := Option.bind_eq_some_iff.mp H
 obtain ⟨t495, A30, H⟩ := H
 replace H : (if t495 = true then (some true) else ((imageeditorref02_span.f k a0_0 a0_1 a0_2 a0_3 0).bind fun bt496 => ((imageeditorref02_span.f k a0_0 a0_1 a0_2 a0_3 1).bind fun bt498 => ((imageeditorref02_Has.f k a1_0 a1_1 a1_2 a1_3 bt496.1 bt498.1).bind fun t500 => (if t500 = true then ((imageeditorref02_Has.f k a1_0 a1_1 a1_2 a1_3 bt496.2 bt498.2).bind fun t501 => (some t501)) else (some false)))))) = some r := H
 have A3 := Aside0.mk A30
 clear A30
 by_cases c4 : t495 = true
 ·subst c4
  have H1 : (some true) = some r := by rw [if_pos rfl] at H; exact H
  clear H
  have H := H1
  clear H1
  obtain rfl := Option.some.inj H
  go_enter Try.func43, Try.ntmps43
  go_wp2_with (first | ((with_reducible refine gate_dst (N := 2) rfl ?_); refine box_event ?hg (N := 2) ?hd (cs := #[.int .i64 a0_0, .int .i64 a0_1, .int .i64 a0_2, .int .i64 a0_3]) (t := 34) ?hr ?_; (case hd => rfl); (case hg => rfl); (case hr => first | (go_simp; done) | (go_simp; rfl)); intro gb493 hg w5 hbox hb; have GW493 := zg HB hg; have GE493 := zg HB hg; have n0_ := Aside0.mk (hbox); replace HB := zb HB hb; have BK493 := n0_; clear n0_; clear hb hbox hg) | ((with_reducible refine gate_dst (N := 3) rfl ?_); refine box_event ?hg (N := 3) ?hd (cs := #[.int .i64 a1_0, .int .i64 a1_1, .int .i64 a1_2, .int .i64 a1_3]) (t := 34) ?hr ?_; (case hd => rfl); (case hg => rfl); (case hr => first | (go_simp; done) | (go_simp; rfl)); intro gb494 hg w6 hbox hb; have GW494 := zg HB hg; have GE494 := zg HB hg; have NB493_494 := zn BK493 hg; have NB494_493 := zn' BK493 hg; have n0_ := Aside0.mk (hbox); replace BK493 := zk BK493 hb; replace HB := zb HB hb; have BK494 := n0_; clear n0_; clear hb hbox hg; obtain ⟨hcz7_0, hcz7_1, hcz7_2, hcz7_3, hfz7_0, hfz7_1, hfz7_2, hfz7_3⟩ := zq4 BK493) | ((with_reducible refine gate_callee (f := 42) rfl ?_); refine goesL_ (some 10) rfl rfl Try.func42 (by kernel_rfl) rfl #[.agg #[.int .i64 a0_0, .int .i64 a0_1, .int .i64 a0_2, .int .i64 a0_3]] rfl (by (try simp only [List.map_toArray, List.map_cons, List.map_nil]); first | done | rfl | (simp only [List.length_drop, List.length_take]; rfl)) ?_; (with_reducible refine (imageeditorref02_Empty.calls a0_0 a0_1 a0_2 a0_3 true _ A3.out).mono ?_); rintro e w8 ⟨rfl, hb⟩; refine ⟨_, rfl, ?_⟩; replace BK493 := zk BK493 hb; replace BK494 := zk BK494 hb; replace HB := zb HB hb; (try clear hb); (try clear hb2); (try clear hk); (try clear hi)))
  go_ret
  exact ⟨by first | rfl | (simp [errW_none, errW_some] <;> rfl) | (simp [*, errW_none, errW_some] <;> rfl), by exact zb0 HB⟩
 ·replace c4 := Bool.eq_false_iff.mpr c4
  subst c4
  have H1 : ((imageeditorref02_span.f k a0_0 a0_1 a0_2 a0_3 0).bind fun bt496 => ((imageeditorref02_span.f k a0_0 a0_1 a0_2 a0_3 1).bind fun bt498 => ((imageeditorref02_Has.f k a1_0 a1_1 a1_2 a1_3 bt496.1 bt498.1).bind fun t500 => (if t500 = true then ((imageeditorref02_Has.f k a1_0 a1_1 a1_2 a1_3 bt496.2 bt498.2).bind fun t501 => (some t501)) else (some false))))) = some r := by rw [if_neg (show ¬ (false = true) by decide)] at H; exact H
  clear H
  have H := H1
  clear H1
  replace H := Option.bind_eq_some_iff.mp H
  obtain ⟨⟨t496, t497⟩, A90, H⟩ := H
  replace H : ((imageeditorref02_span.f k a0_0 a0_1 a0_2 a0_3 1).bind fun bt498 => ((imageeditorref02_Has.f k a1_0 a1_1 a1_2 a1_3 t496 bt498.1).bind fun t500 => (if t500 = true then ((imageeditorref02_Has.f k a1_0 a1_1 a1_2 a1_3 t497 bt498.2).bind fun t501 => (some t501)) else (some false)))) = some r := H
  have A9 := Aside0.mk A90
  clear A90
  replace H := Option.bind_eq_some_iff.mp H
  obtain ⟨⟨t498, t499⟩, A100, H⟩ := H
  replace H : ((imageeditorref02_Has.f k a1_0 a1_1 a1_2 a1_3 t496 t498).bind fun t500 => (if t500 = true then ((imageeditorref02_Has.f k a1_0 a1_1 a1_2 a1_3 t497 t499).bind fun t501 => (some t501)) else (some false))) = some r := H
  have A10 := Aside0.mk A100
  clear A100
  replace H := Option.bind_eq_some_iff.mp H
  obtain ⟨t500, A110, H⟩ := H
  replace H : (if t500 = true then ((imageeditorref02_Has.f k a1_0 a1_1 a1_2 a1_3 t497 t499).bind fun t501 => (some t501)) else (some false)) = some r := H
  have A11 := Aside0.mk A110
  clear A110
  by_cases c12 : t500 = true
  ·subst c12
   have H1 : ((imageeditorref02_Has.f k a1_0 a1_1 a1_2 a1_3 t497 t499).bind fun t501 => (some t501)) = some r := by rw [if_pos rfl] at H; exact H
   clear H
   have H := H1
   clear H1
   replace H := Option.bind_eq_some_iff.mp H
   obtain ⟨t501, A130, H⟩ := H
   replace H : (some t501) = some r := H
   have A13 := Aside0.mk A130
   clear A130
   obtain rfl := Option.some.inj H
   go_enter Try.func43, Try.ntmps43
   go_wp2_with (first | ((with_reducible refine gate_dst (N := 2) rfl ?_); refine box_event ?hg (N := 2) ?hd (cs := #[.int .i64 a0_0, .int .i64 a0_1, .int .i64 a0_2, .int .i64 a0_3]) (t := 34) ?hr ?_; (case hd => rfl); (case hg => rfl); (case hr => first | (go_simp; done) | (go_simp; rfl)); intro gb493 hg w14 hbox hb; have GW493 := zg HB hg; have GE493 := zg HB hg; have n0_ := Aside0.mk (hbox); replace HB := zb HB hb; have BK493 := n0_; clear n0_; clear hb hbox hg) | ((with_reducible refine gate_dst (N := 3) rfl ?_); refine box_event ?hg (N := 3) ?hd (cs := #[.int .i64 a1_0, .int .i64 a1_1, .int .i64 a1_2, .int .i64 a1_3]) (t := 34) ?hr ?_; (case hd => rfl); (case hg => rfl); (case hr => first | (go_simp; done) | (go_simp; rfl)); intro gb494 hg w15 hbox hb; have GW494 := zg HB hg; have GE494 := zg HB hg; have NB493_494 := zn BK493 hg; have NB494_493 := zn' BK493 hg; have n0_ := Aside0.mk (hbox); replace BK493 := zk BK493 hb; replace HB := zb HB hb; have BK494 := n0_; clear n0_; clear hb hbox hg; obtain ⟨hcz16_0, hcz16_1, hcz16_2, hcz16_3, hfz16_0, hfz16_1, hfz16_2, hfz16_3⟩ := zq4 BK493) | ((with_reducible refine gate_callee (f := 42) rfl ?_); refine goesL_ (some 10) rfl rfl Try.func42 (by kernel_rfl) rfl #[.agg #[.int .i64 a0_0, .int .i64 a0_1, .int .i64 a0_2, .int .i64 a0_3]] rfl (by (try simp only [List.map_toArray, List.map_cons, List.map_nil]); first | done | rfl | (simp only [List.length_drop, List.length_take]; rfl)) ?_; (with_reducible refine (imageeditorref02_Empty.calls a0_0 a0_1 a0_2 a0_3 false _ A3.out).mono ?_); rintro e w17 ⟨rfl, hb⟩; refine ⟨_, rfl, ?_⟩; replace BK493 := zk BK493 hb; replace BK494 := zk BK494 hb; replace HB := zb HB hb; (try clear hb); (try clear hb2); (try clear hk); (try clear hi); obtain ⟨hcz18_0, hcz18_1, hcz18_2, hcz18_3, hfz18_0, hfz18_1, hfz18_2, hfz18_3⟩ := zq4 BK493) | ((with_reducible refine gate_callee (f := 73) rfl ?_); refine goesL_ (some 13) rfl rfl Try.func73 (by kernel_rfl) rfl #[.agg #[.int .i64 a0_0, .int .i64 a0_1, .int .i64 a0_2, .int .i64 a0_3], .int .i64 0] rfl (by (try simp only [List.map_toArray, List.map_cons, List.map_nil]); first | done | rfl | (simp only [List.length_drop, List.length_take]; rfl)) ?_; (with_reducible refine (imageeditorref02_span.calls k a0_0 a0_1 a0_2 a0_3 0 t496 t497 _ A9.out).mono ?_); rintro e w19 ⟨rfl, hb⟩; refine ⟨_, rfl, ?_⟩; replace BK493 := zk BK493 hb; replace BK494 := zk BK494 hb; replace HB := zb HB hb; (try clear hb); (try clear hb2); (try clear hk); (try clear hi); obtain ⟨hcz20_0, hcz20_1, hcz20_2, hcz20_3, hfz20_0, hfz20_1, hfz20_2, hfz20_3⟩ := zq4 BK493) | ((with_reducible refine gate_callee (f := 73) rfl ?_); refine goesL_ (some 18) rfl rfl Try.func73 (by kernel_rfl) rfl #[.agg #[.int .i64 a0_0, .int .i64 a0_1, .int .i64 a0_2, .int .i64 a0_3], .int .i64 1] rfl (by (try simp only [List.map_toArray, List.map_cons, List.map_nil]); first | done | rfl | (simp only [List.length_drop, List.length_take]; rfl)) ?_; (with_reducible refine (imageeditorref02_span.calls k a0_0 a0_1 a0_2 a0_3 1 t498 t499 _ A10.out).mono ?_); rintro e w21 ⟨rfl, hb⟩; refine ⟨_, rfl, ?_⟩; replace BK493 := zk BK493 hb; replace BK494 := zk BK494 hb; replace HB := zb HB hb; (try clear hb); (try clear hb2); (try clear hk); (try clear hi); obtain ⟨hcz22_0, hcz22_1, hcz22_2, hcz22_3, hfz22_0, hfz22_1, hfz22_2, hfz22_3⟩ := zq4 BK494) | ((with_reducible refine gate_callee (f := 74) rfl ?_); refine goesL_ (some 25) rfl rfl Try.func74 (by kernel_rfl) rfl #[.agg #[.int .i64 a1_0, .int .i64 a1_1, .int .i64 a1_2, .int .i64 a1_3], .agg #[.int .i64 t496, .int .i64 t498]] rfl (by (try simp only [List.map_toArray, List.map_cons, List.map_nil]); first | done | rfl | (simp only [List.length_drop, List.length_take]; rfl)) ?_; (with_reducible refine (imageeditorref02_Has.calls k a1_0 a1_1 a1_2 a1_3 t496 t498 true _ A11.out).mono ?_); rintro e w23 ⟨rfl, hb⟩; refine ⟨_, rfl, ?_⟩; replace BK493 := zk BK493 hb; replace BK494 := zk BK494 hb; replace HB := zb HB hb; (try clear hb); (try clear hb2); (try clear hk); (try clear hi); obtain ⟨hcz24_0, hcz24_1, hcz24_2, hcz24_3, hfz24_0, hfz24_1, hfz24_2, hfz24_3⟩ := zq4 BK494) | (go_at_call 74; (with_reducible refine (imageeditorref02_Has.calls k a1_0 a1_1 a1_2 a1_3 t497 t499 t501 _ A13.out).mono ?_); rintro e w25 ⟨rfl, hb⟩; replace BK493 := zk BK493 hb; replace BK494 := zk BK494 hb; replace HB := zb HB hb; (try clear hb); (try clear hb2); (try clear hk); (try clear hi)))
   go_ret
   exact ⟨by first | rfl | (simp [errW_none, errW_some] <;> rfl) | (simp [*, errW_none, errW_some] <;> rfl), by exact zb0 HB⟩
  ·replace c12 := Bool.eq_false_iff.mpr c12
   subst c12
   have H1 : (some false) = some r := by rw [if_neg (show ¬ (false = true) by decide)] at H; exact H
   clear H
   have H := H1
   clear H1
   obtain rfl := Option.some.inj H
   go_enter Try.func43, Try.ntmps43
   go_wp2_with (first | ((with_reducible refine gate_dst (N := 2) rfl ?_); refine box_event ?hg (N := 2) ?hd (cs := #[.int .i64 a0_0, .int .i64 a0_1, .int .i64 a0_2, .int .i64 a0_3]) (t := 34) ?hr ?_; (case hd => rfl); (case hg => rfl); (case hr => first | (go_simp; done) | (go_simp; rfl)); intro gb493 hg w26 hbox hb; have GW493 := zg HB hg; have GE493 := zg HB hg; have n0_ := Aside0.mk (hbox); replace HB := zb HB hb; have BK493 := n0_; clear n0_; clear hb hbox hg) | ((with_reducible refine gate_dst (N := 3) rfl ?_); refine box_event ?hg (N := 3) ?hd (cs := #[.int .i64 a1_0, .int .i64 a1_1, .int .i64 a1_2, .int .i64 a1_3]) (t := 34) ?hr ?_; (case hd => rfl); (case hg => rfl); (case hr => first | (go_simp; done) | (go_simp; rfl)); intro gb494 hg w27 hbox hb; have GW494 := zg HB hg; have GE494 := zg HB hg; have NB493_494 := zn BK493 hg; have NB494_493 := zn' BK493 hg; have n0_ := Aside0.mk (hbox); replace BK493 := zk BK493 hb; replace HB := zb HB hb; have BK494 := n0_; clear n0_; clear hb hbox hg; obtain ⟨hcz28_0, hcz28_1, hcz28_2, hcz28_3, hfz28_0, hfz28_1, hfz28_2, hfz28_3⟩ := zq4 BK493) | ((with_reducible refine gate_callee (f := 42) rfl ?_); refine goesL_ (some 10) rfl rfl Try.func42 (by kernel_rfl) rfl #[.agg #[.int .i64 a0_0, .int .i64 a0_1, .int .i64 a0_2, .int .i64 a0_3]] rfl (by (try simp only [List.map_toArray, List.map_cons, List.map_nil]); first | done | rfl | (simp only [List.length_drop, List.length_take]; rfl)) ?_; (with_reducible refine (imageeditorref02_Empty.calls a0_0 a0_1 a0_2 a0_3 false _ A3.out).mono ?_); rintro e w29 ⟨rfl, hb⟩; refine ⟨_, rfl, ?_⟩; replace BK493 := zk BK493 hb; replace BK494 := zk BK494 hb; replace HB := zb HB hb; (try clear hb); (try clear hb2); (try clear hk); (try clear hi); obtain ⟨hcz30_0, hcz30_1, hcz30_2, hcz30_3, hfz30_0, hfz30_1, hfz30_2, hfz30_3⟩ := zq4 BK493) | ((with_reducible refine gate_callee (f := 73) rfl ?_); refine goesL_ (some 13) rfl rfl Try.func73 (by kernel_rfl) rfl #[.agg #[.int .i64 a0_0, .int .i64 a0_1, .int .i64 a0_2, .int .i64 a0_3], .int .i64 0] rfl (by (try simp only [List.map_toArray, List.map_cons, List.map_nil]); first | done | rfl | (simp only [List.length_drop, List.length_take]; rfl)) ?_; (with_reducible refine (imageeditorref02_span.calls k a0_0 a0_1 a0_2 a0_3 0 t496 t497 _ A9.out).mono ?_); rintro e w31 ⟨rfl, hb⟩; refine ⟨_, rfl, ?_⟩; replace BK493 := zk BK493 hb; replace BK494 := zk BK494 hb; replace HB := zb HB hb; (try clear hb); (try clear hb2); (try clear hk); (try clear hi); obtain ⟨hcz32_0, hcz32_1, hcz32_2, hcz32_3, hfz32_0, hfz32_1, hfz32_2, hfz32_3⟩ := zq4 BK493) | ((with_reducible refine gate_callee (f := 73) rfl ?_); refine goesL_ (some 18) rfl rfl Try.func73 (by kernel_rfl) rfl #[.agg #[.int .i64 a0_0, .int .i64 a0_1, .int .i64 a0_2, .int .i64 a0_3], .int .i64 1] rfl (by (try simp only [List.map_toArray, List.map_cons, List.map_nil]); first | done | rfl | (simp only [List.length_drop, List.length_take]; rfl)) ?_; (with_reducible refine (imageeditorref02_span.calls k a0_0 a0_1 a0_2 a0_3 1 t498 t499 _ A10.out).mono ?_); rintro e w33 ⟨rfl, hb⟩; refine ⟨_, rfl, ?_⟩; replace BK493 := zk BK493 hb; replace BK494 := zk BK494 hb; replace HB := zb HB hb; (try clear hb); (try clear hb2); (try clear hk); (try clear hi); obtain ⟨hcz34_0, hcz34_1, hcz34_2, hcz34_3, hfz34_0, hfz34_1, hfz34_2, hfz34_3⟩ := zq4 BK494) | ((with_reducible refine gate_callee (f := 74) rfl ?_); refine goesL_ (some 25) rfl rfl Try.func74 (by kernel_rfl) rfl #[.agg #[.int .i64 a1_0, .int .i64 a1_1, .int .i64 a1_2, .int .i64 a1_3], .agg #[.int .i64 t496, .int .i64 t498]] rfl (by (try simp only [List.map_toArray, List.map_cons, List.map_nil]); first | done | rfl | (simp only [List.length_drop, List.length_take]; rfl)) ?_; (with_reducible refine (imageeditorref02_Has.calls k a1_0 a1_1 a1_2 a1_3 t496 t498 false _ A11.out).mono ?_); rintro e w35 ⟨rfl, hb⟩; refine ⟨_, rfl, ?_⟩; replace BK493 := zk BK493 hb; replace BK494 := zk BK494 hb; replace HB := zb HB hb; (try clear hb); (try clear hb2); (try clear hk); (try clear hi)))
   go_ret
   exact ⟨by first | rfl | (simp [errW_none, errW_some] <;> rfl) | (simp [*, errW_none, errW_some] <;> rfl), by exact zb0 HB⟩

/-! ### imageeditorref02_of: function 75 -/
def imageeditorref02_of.f (a0 : Int) (a1 : Int) (a2 : Int) (a3 : Int) : Option (Int × Int × Int × Int) := if a1 < a0 then (some (0, 0, 0, 0)) else (if a3 < a2 then (some (0, 0, 0, 0)) else (some (a0, a2, wrap64 ((wrap64 (a1 - a0)) + 1), wrap64 ((wrap64 (a3 - a2)) + 1))))
set_option maxHeartbeats 8000000 in
set_option maxRecDepth 100000 in
theorem imageeditorref02_of.calls (a0 : Int) (a1 : Int) (a2 : Int) (a3 : Int) (r1 : Int) (r2 : Int) (r3 : Int) (r4 : Int) (w : World) (h : imageeditorref02_of.f a0 a1 a2 a3 = some (r1, r2, r3, r4)) :
  Calls Try.prog 75 #[.int .i64 a0, .int .i64 a1, .int .i64 a2, .int .i64 a3] w fun e w' => e = .returned (.agg #[.int .i64 r1, .int .i64 r2, .int .i64 r3, .int .i64 r4]) ∧ Below w.heap.size w w' := by
 have hu34 := Try.underlying34
 have HB := Aside0.mk (Below.refl w.heap.size w)
 have H : (if a1 < a0 then (some (0, 0, 0, 0)) else (if a3 < a2 then (some (0, 0, 0, 0)) else (some (a0, a2, wrap64 ((wrap64 (a1 - a0)) + 1), wrap64 ((wrap64 (a3 - a2)) + 1))))) = some (r1, r2, r3, r4) := h
 clear h
 by_cases c5 : a1 < a0
 ·rw [if_pos c5] at H
  have c5b0 : decide (a1 < a0) = true := decide_eq_true c5
  clear c5
  simp only [Option.some.injEq, Prod.mk.injEq] at H
  obtain ⟨rfl, rfl, rfl, rfl⟩ := H
  go_enter Try.func75, Try.ntmps75
  go_wp2_with (first | ((with_reducible refine gate_dst (N := 8) rfl ?_); refine box_event ?hg (N := 8) ?hd (cs := #[.int .i64 0, .int .i64 0, .int .i64 0, .int .i64 0]) (t := 34) ?hr ?_; (case hd => rfl); (case hg => rfl); (case hr => first | (go_simp; done) | (go_simp; rfl)); intro gb502 hg w6 hbox hb; have GW502 := zg HB hg; have GE502 := zg HB hg; have n0_ := Aside0.mk (hbox); replace HB := zb HB hb; have BK502 := n0_; clear n0_; clear hb hbox hg; obtain ⟨hcz7_0, hcz7_1, hcz7_2, hcz7_3, hfz7_0, hfz7_1, hfz7_2, hfz7_3⟩ := zq4 BK502))
  refine bodyPost_ret (results_cell_row rfl _ _ gb502 34 #[.int .i64 0, .int .i64 0, .int .i64 0, .int .i64 0] (0, 0) _ rfl (by exact zp BK502 rfl) Try.underlying34 rfl (by kernel_rfl)) rfl ?_
  exact ⟨by first | rfl | (simp [errW_none, errW_some] <;> rfl) | (simp [*, errW_none, errW_some] <;> rfl), by exact zbo HB GE502⟩
 ·rw [if_neg c5] at H
  have c5b0 : decide (a1 < a0) = false := decide_eq_false c5
  clear c5
  by_cases c8 : a3 < a2
  ·rw [if_pos c8] at H
   have c8b0 : decide (a3 < a2) = true := decide_eq_true c8
   clear c8
   simp only [Option.some.injEq, Prod.mk.injEq] at H
   obtain ⟨rfl, rfl, rfl, rfl⟩ := H
   go_enter Try.func75, Try.ntmps75
   go_wp2_with (first | ((with_reducible refine gate_dst (N := 8) rfl ?_); refine box_event ?hg (N := 8) ?hd (cs := #[.int .i64 0, .int .i64 0, .int .i64 0, .int .i64 0]) (t := 34) ?hr ?_; (case hd => rfl); (case hg => rfl); (case hr => first | (go_simp; done) | (go_simp; rfl)); intro gb502 hg w9 hbox hb; have GW502 := zg HB hg; have GE502 := zg HB hg; have n0_ := Aside0.mk (hbox); replace HB := zb HB hb; have BK502 := n0_; clear n0_; clear hb hbox hg; obtain ⟨hcz10_0, hcz10_1, hcz10_2, hcz10_3, hfz10_0, hfz10_1, hfz10_2, hfz10_3⟩ := zq4 BK502))
   refine bodyPost_ret (results_cell_row rfl _ _ gb502 34 #[.int .i64 0, .int .i64 0, .int .i64 0, .int .i64 0] (0, 0) _ rfl (by exact zp BK502 rfl) Try.underlying34 rfl (by kernel_rfl)) rfl ?_
   exact ⟨by first | rfl | (simp [errW_none, errW_some] <;> rfl) | (simp [*, errW_none, errW_some] <;> rfl), by exact zbo HB GE502⟩
  ·rw [if_neg c8] at H
   have c8b0 : decide (a3 < a2) = false := decide_eq_false c8
   clear c8
   simp only [Option.some.injEq, Prod.mk.injEq] at H
   obtain ⟨rfl, rfl, rfl, rfl⟩ := H
   go_enter Try.func75, Try.ntmps75
   go_wp2_with (first | ((with_reducible refine gate_dst (N := 8) rfl ?_); refine box_event ?hg (N := 8) ?hd (cs := #[.int .i64 0, .int .i64 0, .int .i64 0, .int .i64 0]) (t := 34) ?hr ?_; (case hd => rfl); (case hg => rfl); (case hr => first | (go_simp; done) | (go_simp; rfl)); intro gb502 hg w11 hbox hb; have GW502 := zg HB hg; have GE502 := zg HB hg; have n0_ := Aside0.mk (hbox); replace HB := zb HB hb; have BK502 := n0_; clear n0_; clear hb hbox hg; obtain ⟨hcz12_0, hcz12_1, hcz12_2, hcz12_3, hfz12_0, hfz12_1, hfz12_2, hfz12_3⟩ := zq4 BK502))
   refine bodyPost_ret (results_cell_row rfl _ _ gb502 34 #[.int .i64 a0, .int .i64 a2, .int .i64 (wrap64 ((wrap64 (a1 - a0)) + 1)), .int .i64 (wrap64 ((wrap64 (a3 - a2)) + 1))] (0, 0) _ rfl (by exact zp BK502 rfl) Try.underlying34 rfl (by kernel_rfl)) rfl ?_
   exact ⟨by first | rfl | (simp [errW_none, errW_some] <;> rfl) | (simp [*, errW_none, errW_some] <;> rfl), by exact zbo HB GE502⟩

/-! ### imageeditorref02_Meet: function 44 -/
def imageeditorref02_Meet.j0 : Nat → Bool → Int → Int → Int → Int → Int → Int → Int → Int → Option (Int × Int × Int × Int)
 | 0, _, _, _, _, _, _, _, _, _ => none
 | k + 1, x18, x504000, x504001, x504002, x504003, x505000, x505001, x505002, x505003 => if x18 = true then (some (0, 0, 0, 0)) else ((imageeditorref02_span.f k x504000 x504001 x504002 x504003 0).bind fun bt508 => ((imageeditorref02_span.f k x504000 x504001 x504002 x504003 1).bind fun bt510 => ((imageeditorref02_span.f k x505000 x505001 x505002 x505003 0).bind fun bt512 => ((imageeditorref02_span.f k x505000 x505001 x505002 x505003 1).bind fun bt514 => ((imageeditorref02_of.f (mx bt508.1 bt512.1) (mn bt508.2 bt512.2) (mx bt510.1 bt514.1) (mn bt510.2 bt514.2)).bind fun bt516 => (some (bt516.1, bt516.2.1, bt516.2.2.1, bt516.2.2.2)))))))
def imageeditorref02_Meet.f (k : Nat) (a0_0 : Int) (a0_1 : Int) (a0_2 : Int) (a0_3 : Int) (a1_0 : Int) (a1_1 : Int) (a1_2 : Int) (a1_3 : Int) : Option (Int × Int × Int × Int) := (imageeditorref02_Empty.f a0_0 a0_1 a0_2 a0_3).bind fun t506 => (if t506 = true then (imageeditorref02_Meet.j0 k true a0_0 a0_1 a0_2 a0_3 a1_0 a1_1 a1_2 a1_3) else ((imageeditorref02_Empty.f a1_0 a1_1 a1_2 a1_3).bind fun t507 => (imageeditorref02_Meet.j0 k t507 a0_0 a0_1 a0_2 a0_3 a1_0 a1_1 a1_2 a1_3)))
theorem imageeditorref02_Meet.mono_l : ∀ k, (∀ y0 y1 y2 y3 y4 y5 y6 y7 y8, LeO (imageeditorref02_Meet.j0 k y0 y1 y2 y3 y4 y5 y6 y7 y8) (imageeditorref02_Meet.j0 (k + 1) y0 y1 y2 y3 y4 y5 y6 y7 y8))
 | 0 => fun _ _ _ _ _ _ _ _ _ r h => by simp [imageeditorref02_Meet.j0] at h
 | k + 1 => by
  have ih0 := imageeditorref02_Meet.mono_l k
  ·intro y0 y1 y2 y3 y4 y5 y6 y7 y8
   unfold imageeditorref02_Meet.j0
   repeat' first
   | (with_reducible exact ih0 _ _ _ _ _ _ _ _ _)
   | (with_reducible exact imageeditorref02_span.mono _ _ _ _ _ _)
   | (with_reducible exact LeO.refl _)
   | (with_reducible exact LeO.none _)
   | (with_reducible refine LeO.ite ?_ ?_)
   | (with_reducible refine LeO.bind ?_ (fun _ => ?_))
   | exact ih0 _ _ _ _ _ _ _ _ _
   | exact imageeditorref02_span.mono _ _ _ _ _ _
   | exact LeO.none _
   | refine LeO.ite ?_ ?_
   | refine LeO.bind ?_ (fun _ => ?_)
theorem imageeditorref02_Meet.mono : ∀ a0 a1 a2 a3 a4 a5 a6 a7 k, LeO (imageeditorref02_Meet.f k a0 a1 a2 a3 a4 a5 a6 a7) (imageeditorref02_Meet.f (k + 1) a0 a1 a2 a3 a4 a5 a6 a7) := by
 intro a0 a1 a2 a3 a4 a5 a6 a7 k
 have ih0 := imageeditorref02_Meet.mono_l k
 unfold imageeditorref02_Meet.f
 repeat' first
   | (with_reducible exact ih0 _ _ _ _ _ _ _ _ _)
   | (with_reducible exact imageeditorref02_span.mono _ _ _ _ _ _)
   | (with_reducible exact LeO.refl _)
   | (with_reducible exact LeO.none _)
   | (with_reducible refine LeO.ite ?_ ?_)
   | (with_reducible refine LeO.bind ?_ (fun _ => ?_))
   | exact ih0 _ _ _ _ _ _ _ _ _
   | exact imageeditorref02_span.mono _ _ _ _ _ _
   | exact LeO.none _
   | refine LeO.ite ?_ ?_
   | refine LeO.bind ?_ (fun _ => ?_)
set_option maxHeartbeats 8000000 in
set_option maxRecDepth 100000 in
theorem imageeditorref02_Meet.calls (k : Nat) (a0_0 : Int) (a0_1 : Int) (a0_2 : Int) (a0_3 : Int) (a1_0 : Int) (a1_1 : Int) (a1_2 : Int) (a1_3 : Int) (r1 : Int) (r2 : Int) (r3 : Int) (r4 : Int) (w : World) (h : imageeditorref02_Meet.f k a0_0 a0_1 a0_2 a0_3 a1_0 a1_1 a1_2 a1_3 = some (r1, r2, r3, r4)) :
  Calls Try.prog 44 #[.agg #[.int .i64 a0_0, .int .i64 a0_1, .int .i64 a0_2, .int .i64 a0_3], .agg #[.int .i64 a1_0, .int .i64 a1_1, .int .i64 a1_2, .int .i64 a1_3]] w fun e w' => e = .returned (.agg #[.int .i64 r1, .int .i64 r2, .int .i64 r3, .int .i64 r4]) ∧ Below w.heap.size w w' := by
 have hu34 := Try.underlying34
 have HB := Aside0.mk (Below.refl w.heap.size w)
 have H : ((imageeditorref02_Empty.f a0_0 a0_1 a0_2 a0_3).bind fun t506 => (if t506 = true then (imageeditorref02_Meet.j0 k true a0_0 a0_1 a0_2 a0_3 a1_0 a1_1 a1_2 a1_3) else ((imageeditorref02_Empty.f a1_0 a1_1 a1_2 a1_3).bind fun t507 => (imageeditorref02_Meet.j0 k t507 a0_0 a0_1 a0_2 a0_3 a1_0 a1_1 a1_2 a1_3)))) = some (r1, r2, r3, r4) := h
 clear h
 have HC3 := Aside0.mk H
 clear H
 go_enter Try.func44, Try.ntmps44
 go_upto_region 1 with (first | ((with_reducible refine gate_dst (N := 2) rfl ?_); refine box_event ?hg (N := 2) ?hd (cs := #[.int .i64 a0_0, .int .i64 a0_1, .int .i64 a0_2, .int .i64 a0_3]) (t := 34) ?hr ?_; (case hd => rfl); (case hg => rfl); (case hr => first | (go_simp; done) | (go_simp; rfl)); intro gb503 hg w4 hbox hb; have GW503 := zg HB hg; have GE503 := zg HB hg; have n0_ := Aside0.mk (hbox); replace HB := zb HB hb; have BK503 := n0_; clear n0_; clear hb hbox hg) | ((with_reducible refine gate_dst (N := 3) rfl ?_); refine box_event ?hg (N := 3) ?hd (cs := #[.int .i64 a1_0, .int .i64 a1_1, .int .i64 a1_2, .int .i64 a1_3]) (t := 34) ?hr ?_; (case hd => rfl); (case hg => rfl); (case hr => first | (go_simp; done) | (go_simp; rfl)); intro gb504 hg w5 hbox hb; have GW504 := zg HB hg; have GE504 := zg HB hg; have NB503_504 := zn BK503 hg; have NB504_503 := zn' BK503 hg; have n0_ := Aside0.mk (hbox); replace BK503 := zk BK503 hb; replace HB := zb HB hb; have BK504 := n0_; clear n0_; clear hb hbox hg) | ((with_reducible refine gate_dst (N := 4) rfl ?_); refine box_event ?hg (N := 4) ?hd (cs := #[.int .i64 0, .int .i64 0, .int .i64 0, .int .i64 0]) (t := 34) ?hr ?_; (case hd => rfl); (case hg => rfl); (case hr => first | (go_simp; done) | (go_simp; rfl)); intro gb505 hg w6 hbox hb; have GW505 := zg HB hg; have GE505 := zg HB hg; have NB503_505 := zn BK503 hg; have NB505_503 := zn' BK503 hg; have NB504_505 := zn BK504 hg; have NB505_504 := zn' BK504 hg; have n0_ := Aside0.mk (hbox); replace BK503 := zk BK503 hb; replace BK504 := zk BK504 hb; replace HB := zb HB hb; have BK505 := n0_; clear n0_; clear hb hbox hg))
 (try simp only [Act.put, sA, sB, sC])
 go_cut [18] (fun v18 wc => ∃ (kq : Nat) (x18_2 : Bool), v18 = .bool x18_2 ∧ Aside0 (imageeditorref02_Meet.j0 kq x18_2 a0_0 a0_1 a0_2 a0_3 a1_0 a1_1 a1_2 a1_3 = some (r1, r2, r3, r4)) ∧ Aside0 (kq ≤ k) ∧ Aside0 (wc.heap[gb503]? = some (.cells #[.int .i64 a0_0, .int .i64 a0_1, .int .i64 a0_2, .int .i64 a0_3] 34 (0, 0))) ∧ Aside0 (wc.heap[gb504]? = some (.cells #[.int .i64 a1_0, .int .i64 a1_1, .int .i64 a1_2, .int .i64 a1_3] 34 (0, 0))) ∧ Aside0 (wc.heap[gb505]? = some (.cells #[.int .i64 0, .int .i64 0, .int .i64 0, .int .i64 0] 34 (0, 0))) ∧ Aside0 (Below w.heap.size w wc))
 case first =>
  have H := HC3.out
  clear HC3
  replace H := Option.bind_eq_some_iff.mp H
  obtain ⟨t506, A70, H⟩ := H
  replace H : (if t506 = true then (imageeditorref02_Meet.j0 k true a0_0 a0_1 a0_2 a0_3 a1_0 a1_1 a1_2 a1_3) else ((imageeditorref02_Empty.f a1_0 a1_1 a1_2 a1_3).bind fun t507 => (imageeditorref02_Meet.j0 k t507 a0_0 a0_1 a0_2 a0_3 a1_0 a1_1 a1_2 a1_3))) = some (r1, r2, r3, r4) := H
  have A7 := Aside0.mk A70
  clear A70
  by_cases c8 : t506 = true
  ·subst c8
   have H1 : (imageeditorref02_Meet.j0 k true a0_0 a0_1 a0_2 a0_3 a1_0 a1_1 a1_2 a1_3) = some (r1, r2, r3, r4) := by rw [if_pos rfl] at H; exact H
   clear H
   have H := H1
   clear H1
   have H' := Aside0.mk H
   clear H
   obtain ⟨hcz9_0, hcz9_1, hcz9_2, hcz9_3, hfz9_0, hfz9_1, hfz9_2, hfz9_3⟩ := zq4 BK503
   go_wp2_with (first | ((with_reducible refine gate_callee (f := 42) rfl ?_); refine goesL_ (some 14) rfl rfl Try.func42 (by kernel_rfl) rfl #[.agg #[.int .i64 a0_0, .int .i64 a0_1, .int .i64 a0_2, .int .i64 a0_3]] rfl (by (try simp only [List.map_toArray, List.map_cons, List.map_nil]); first | done | rfl | (simp only [List.length_drop, List.length_take]; rfl)) ?_; (with_reducible refine (imageeditorref02_Empty.calls a0_0 a0_1 a0_2 a0_3 true _ A7.out).mono ?_); rintro e w10 ⟨rfl, hb⟩; refine ⟨_, rfl, ?_⟩; replace BK503 := zk BK503 hb; replace BK504 := zk BK504 hb; replace BK505 := zk BK505 hb; replace HB := zb HB hb; (try clear hb); (try clear hb2); (try clear hk); (try clear hi)))
   go_meet
   case rel => exact ⟨_, (true), (by first | rfl | (simp; done) | (simp [*]; done)), H', ⟨by first | omega | exact Nat.le_refl _⟩, ⟨by exact zk0 BK503⟩, ⟨by exact zk0 BK504⟩, ⟨by exact zk0 BK505⟩, ⟨by exact zb0 HB⟩⟩
  ·replace c8 := Bool.eq_false_iff.mpr c8
   subst c8
   have H1 : ((imageeditorref02_Empty.f a1_0 a1_1 a1_2 a1_3).bind fun t507 => (imageeditorref02_Meet.j0 k t507 a0_0 a0_1 a0_2 a0_3 a1_0 a1_1 a1_2 a1_3)) = some (r1, r2, r3, r4) := by rw [if_neg (show ¬ (false = true) by decide)] at H; exact H
   clear H
   have H := H1
   clear H1
   replace H := Option.bind_eq_some_iff.mp H
   obtain ⟨t507, A110, H⟩ := H
   replace H : (imageeditorref02_Meet.j0 k t507 a0_0 a0_1 a0_2 a0_3 a1_0 a1_1 a1_2 a1_3) = some (r1, r2, r3, r4) := H
   have A11 := Aside0.mk A110
   clear A110
   have H' := Aside0.mk H
   clear H
   obtain ⟨hcz12_0, hcz12_1, hcz12_2, hcz12_3, hfz12_0, hfz12_1, hfz12_2, hfz12_3⟩ := zq4 BK503
   go_wp2_with (first | ((with_reducible refine gate_callee (f := 42) rfl ?_); refine goesL_ (some 14) rfl rfl Try.func42 (by kernel_rfl) rfl #[.agg #[.int .i64 a0_0, .int .i64 a0_1, .int .i64 a0_2, .int .i64 a0_3]] rfl (by (try simp only [List.map_toArray, List.map_cons, List.map_nil]); first | done | rfl | (simp only [List.length_drop, List.length_take]; rfl)) ?_; (with_reducible refine (imageeditorref02_Empty.calls a0_0 a0_1 a0_2 a0_3 false _ A7.out).mono ?_); rintro e w13 ⟨rfl, hb⟩; refine ⟨_, rfl, ?_⟩; replace BK503 := zk BK503 hb; replace BK504 := zk BK504 hb; replace BK505 := zk BK505 hb; replace HB := zb HB hb; (try clear hb); (try clear hb2); (try clear hk); (try clear hi); obtain ⟨hcz14_0, hcz14_1, hcz14_2, hcz14_3, hfz14_0, hfz14_1, hfz14_2, hfz14_3⟩ := zq4 BK504) | (go_at_call 42; (with_reducible refine (imageeditorref02_Empty.calls a1_0 a1_1 a1_2 a1_3 t507 _ A11.out).mono ?_); rintro e w15 ⟨rfl, hb⟩; replace BK503 := zk BK503 hb; replace BK504 := zk BK504 hb; replace BK505 := zk BK505 hb; replace HB := zb HB hb; (try clear hb); (try clear hb2); (try clear hk); (try clear hi)))
   go_meet
   case rel => exact ⟨_, (t507), (by first | rfl | (simp; done) | (simp [*]; done)), H', ⟨by first | omega | exact Nat.le_refl _⟩, ⟨by exact zk0 BK503⟩, ⟨by exact zk0 BK504⟩, ⟨by exact zk0 BK505⟩, ⟨by exact zb0 HB⟩⟩
 case rest =>
  clear HC3
  try clear p2
  try clear c4
  try clear q4
  try clear c8
  try clear hcz12_0
  try clear hcz12_1
  try clear hcz12_2
  try clear hcz12_3
  try clear hcz14_0
  try clear hcz14_1
  try clear hcz14_2
  try clear hcz14_3
  try clear hcz9_0
  try clear hcz9_1
  try clear hcz9_2
  try clear hcz9_3
  try clear hfz12_0
  try clear hfz12_1
  try clear hfz12_2
  try clear hfz12_3
  try clear hfz14_0
  try clear hfz14_1
  try clear hfz14_2
  try clear hfz14_3
  try clear hfz9_0
  try clear hfz9_1
  try clear hfz9_2
  try clear hfz9_3
  obtain ⟨kq, x18_2, rfl, HA, HJ2, BK503, BK504, BK505, HB⟩ := hcut
  cases kq with
  | zero => exact absurd HA.out (by simp [imageeditorref02_Meet.j0])
  | succ kj2 =>
   have H := HA.out
   clear HA
   simp only [imageeditorref02_Meet.j0] at H
   by_cases c16 : x18_2 = true
   ·subst c16
    have H1 : (some (0, 0, 0, 0)) = some (r1, r2, r3, r4) := by rw [if_pos rfl] at H; exact H
    clear H
    have H := H1
    clear H1
    simp only [Option.some.injEq, Prod.mk.injEq] at H
    obtain ⟨rfl, rfl, rfl, rfl⟩ := H
    have hnb17 := NB505_503.out
    have hnc17 := NB503_505.out
    have hnb18 := NB505_504.out
    have hnc18 := NB504_505.out
    obtain ⟨hcz19_0, hcz19_1, hcz19_2, hcz19_3, hfz19_0, hfz19_1, hfz19_2, hfz19_3⟩ := zq4 BK505
    go_wp2
    refine bodyPost_ret (results_cell_row rfl _ _ gb505 34 #[.int .i64 0, .int .i64 0, .int .i64 0, .int .i64 0] (0, 0) _ rfl (by exact zp BK505 rfl) Try.underlying34 rfl (by kernel_rfl)) rfl ?_
    exact ⟨by first | rfl | (simp [errW_none, errW_some] <;> rfl) | (simp [*, errW_none, errW_some] <;> rfl), by exact zbo HB GE505⟩
   ·replace c16 := Bool.eq_false_iff.mpr c16
    subst c16
    have H1 : ((imageeditorref02_span.f kj2 a0_0 a0_1 a0_2 a0_3 0).bind fun bt508 => ((imageeditorref02_span.f kj2 a0_0 a0_1 a0_2 a0_3 1).bind fun bt510 => ((imageeditorref02_span.f kj2 a1_0 a1_1 a1_2 a1_3 0).bind fun bt512 => ((imageeditorref02_span.f kj2 a1_0 a1_1 a1_2 a1_3 1).bind fun bt514 => ((imageeditorref02_of.f (mx bt508.1 bt512.1) (mn bt508.2 bt512.2) (mx bt510.1 bt514.1) (mn bt510.2 bt514.2)).bind fun bt516 => (some (bt516.1, bt516.2.1, bt516.2.2.1, bt516.2.2.2))))))) = some (r1, r2, r3, r4) := by rw [if_neg (show ¬ (false = true) by decide)] at H; exact H
    clear H
    have H := H1
    clear H1
    replace H := Option.bind_eq_some_iff.mp H
    obtain ⟨⟨t508, t509⟩, A200, H⟩ := H
    replace H : ((imageeditorref02_span.f kj2 a0_0 a0_1 a0_2 a0_3 1).bind fun bt510 => ((imageeditorref02_span.f kj2 a1_0 a1_1 a1_2 a1_3 0).bind fun bt512 => ((imageeditorref02_span.f kj2 a1_0 a1_1 a1_2 a1_3 1).bind fun bt514 => ((imageeditorref02_of.f (mx t508 bt512.1) (mn t509 bt512.2) (mx bt510.1 bt514.1) (mn bt510.2 bt514.2)).bind fun bt516 => (some (bt516.1, bt516.2.1, bt516.2.2.1, bt516.2.2.2)))))) = some (r1, r2, r3, r4) := H
    have A20 := Aside0.mk A200
    clear A200
    replace H := Option.bind_eq_some_iff.mp H
    obtain ⟨⟨t510, t511⟩, A210, H⟩ := H
    replace H : ((imageeditorref02_span.f kj2 a1_0 a1_1 a1_2 a1_3 0).bind fun bt512 => ((imageeditorref02_span.f kj2 a1_0 a1_1 a1_2 a1_3 1).bind fun bt514 => ((imageeditorref02_of.f (mx t508 bt512.1) (mn t509 bt512.2) (mx t510 bt514.1) (mn t511 bt514.2)).bind fun bt516 => (some (bt516.1, bt516.2.1, bt516.2.2.1, bt516.2.2.2))))) = some (r1, r2, r3, r4) := H
    have A21 := Aside0.mk A210
    clear A210
    replace H := Option.bind_eq_some_iff.mp H
    obtain ⟨⟨t512, t513⟩, A220, H⟩ := H
    replace H : ((imageeditorref02_span.f kj2 a1_0 a1_1 a1_2 a1_3 1).bind fun bt514 => ((imageeditorref02_of.f (mx t508 t512) (mn t509 t513) (mx t510 bt514.1) (mn t511 bt514.2)).bind fun bt516 => (some (bt516.1, bt516.2.1, bt516.2.2.1, bt516.2.2.2)))) = some (r1, r2, r3, r4) := H
    have A22 := Aside0.mk A220
    clear A220
    replace H := Option.bind_eq_some_iff.mp H
    obtain ⟨⟨t514, t515⟩, A230, H⟩ := H
    replace H : ((imageeditorref02_of.f (mx t508 t512) (mn t509 t513) (mx t510 t514) (mn t511 t515)).bind fun bt516 => (some (bt516.1, bt516.2.1, bt516.2.2.1, bt516.2.2.2))) = some (r1, r2, r3, r4) := H
    have A23 := Aside0.mk A230
    clear A230
    obtain ⟨ji24, hji24⟩ : ∃ j_ : Int, (mx t508 t512) = j_ := ⟨_, rfl⟩
    replace H : ((imageeditorref02_of.f (ji24) (mn t509 t513) (mx t510 t514) (mn t511 t515)).bind fun bt516 => (some (bt516.1, bt516.2.1, bt516.2.2.1, bt516.2.2.2))) = some (r1, r2, r3, r4) := by first | (rw [hji24] at H; exact H) | (simp only [hji24] at H ⊢; exact H)
    (try rw [hji24] at A20)
    (try rw [hji24] at A21)
    (try rw [hji24] at A22)
    (try rw [hji24] at A23)
    have hji24_ : (if t508 < t512 then t512 else t508) = ji24 := hji24
    obtain ⟨ji25, hji25⟩ : ∃ j_ : Int, (mn t509 t513) = j_ := ⟨_, rfl⟩
    replace H : ((imageeditorref02_of.f (ji24) (ji25) (mx t510 t514) (mn t511 t515)).bind fun bt516 => (some (bt516.1, bt516.2.1, bt516.2.2.1, bt516.2.2.2))) = some (r1, r2, r3, r4) := by first | (rw [hji25] at H; exact H) | (simp only [hji25] at H ⊢; exact H)
    (try rw [hji25] at A20)
    (try rw [hji25] at A21)
    (try rw [hji25] at A22)
    (try rw [hji25] at A23)
    have hji25_ : (if t513 < t509 then t513 else t509) = ji25 := hji25
    obtain ⟨ji26, hji26⟩ : ∃ j_ : Int, (mx t510 t514) = j_ := ⟨_, rfl⟩
    replace H : ((imageeditorref02_of.f (ji24) (ji25) (ji26) (mn t511 t515)).bind fun bt516 => (some (bt516.1, bt516.2.1, bt516.2.2.1, bt516.2.2.2))) = some (r1, r2, r3, r4) := by first | (rw [hji26] at H; exact H) | (simp only [hji26] at H ⊢; exact H)
    (try rw [hji26] at A20)
    (try rw [hji26] at A21)
    (try rw [hji26] at A22)
    (try rw [hji26] at A23)
    have hji26_ : (if t510 < t514 then t514 else t510) = ji26 := hji26
    obtain ⟨ji27, hji27⟩ : ∃ j_ : Int, (mn t511 t515) = j_ := ⟨_, rfl⟩
    replace H : ((imageeditorref02_of.f (ji24) (ji25) (ji26) (ji27)).bind fun bt516 => (some (bt516.1, bt516.2.1, bt516.2.2.1, bt516.2.2.2))) = some (r1, r2, r3, r4) := by first | (rw [hji27] at H; exact H) | (simp only [hji27] at H ⊢; exact H)
    (try rw [hji27] at A20)
    (try rw [hji27] at A21)
    (try rw [hji27] at A22)
    (try rw [hji27] at A23)
    have hji27_ : (if t515 < t511 then t515 else t511) = ji27 := hji27
    replace H := Option.bind_eq_some_iff.mp H
    obtain ⟨⟨t516, t517, t518, t519⟩, A280, H⟩ := H
    replace H : (some (t516, t517, t518, t519)) = some (r1, r2, r3, r4) := H
    have A28 := Aside0.mk A280
    clear A280
    simp only [Option.some.injEq, Prod.mk.injEq] at H
    obtain ⟨rfl, rfl, rfl, rfl⟩ := H
    have hnb29 := NB503_504.out
    have hnc29 := NB504_503.out
    have hnb30 := NB503_505.out
    have hnc30 := NB505_503.out
    obtain ⟨hcz31_0, hcz31_1, hcz31_2, hcz31_3, hfz31_0, hfz31_1, hfz31_2, hfz31_3⟩ := zq4 BK503
    go_wp2_with (first | ((with_reducible refine gate_callee (f := 73) rfl ?_); refine goesL_ (some 22) rfl rfl Try.func73 (by kernel_rfl) rfl #[.agg #[.int .i64 a0_0, .int .i64 a0_1, .int .i64 a0_2, .int .i64 a0_3], .int .i64 0] rfl (by (try simp only [List.map_toArray, List.map_cons, List.map_nil]); first | done | rfl | (simp only [List.length_drop, List.length_take]; rfl)) ?_; (with_reducible refine (imageeditorref02_span.calls kj2 a0_0 a0_1 a0_2 a0_3 0 t508 t509 _ A20.out).mono ?_); rintro e w32 ⟨rfl, hb⟩; refine ⟨_, rfl, ?_⟩; replace BK503 := zk BK503 hb; replace BK504 := zk BK504 hb; replace BK505 := zk BK505 hb; replace HB := zb HB hb; (try clear hb); (try clear hb2); (try clear hk); (try clear hi); obtain ⟨hcz33_0, hcz33_1, hcz33_2, hcz33_3, hfz33_0, hfz33_1, hfz33_2, hfz33_3⟩ := zq4 BK503) | ((with_reducible refine gate_callee (f := 73) rfl ?_); refine goesL_ (some 27) rfl rfl Try.func73 (by kernel_rfl) rfl #[.agg #[.int .i64 a0_0, .int .i64 a0_1, .int .i64 a0_2, .int .i64 a0_3], .int .i64 1] rfl (by (try simp only [List.map_toArray, List.map_cons, List.map_nil]); first | done | rfl | (simp only [List.length_drop, List.length_take]; rfl)) ?_; (with_reducible refine (imageeditorref02_span.calls kj2 a0_0 a0_1 a0_2 a0_3 1 t510 t511 _ A21.out).mono ?_); rintro e w34 ⟨rfl, hb⟩; refine ⟨_, rfl, ?_⟩; replace BK503 := zk BK503 hb; replace BK504 := zk BK504 hb; replace BK505 := zk BK505 hb; replace HB := zb HB hb; (try clear hb); (try clear hb2); (try clear hk); (try clear hi); have hnb35 := NB504_505.out; have hnc35 := NB505_504.out; obtain ⟨hcz36_0, hcz36_1, hcz36_2, hcz36_3, hfz36_0, hfz36_1, hfz36_2, hfz36_3⟩ := zq4 BK504) | ((with_reducible refine gate_callee (f := 73) rfl ?_); refine goesL_ (some 32) rfl rfl Try.func73 (by kernel_rfl) rfl #[.agg #[.int .i64 a1_0, .int .i64 a1_1, .int .i64 a1_2, .int .i64 a1_3], .int .i64 0] rfl (by (try simp only [List.map_toArray, List.map_cons, List.map_nil]); first | done | rfl | (simp only [List.length_drop, List.length_take]; rfl)) ?_; (with_reducible refine (imageeditorref02_span.calls kj2 a1_0 a1_1 a1_2 a1_3 0 t512 t513 _ A22.out).mono ?_); rintro e w37 ⟨rfl, hb⟩; refine ⟨_, rfl, ?_⟩; replace BK503 := zk BK503 hb; replace BK504 := zk BK504 hb; replace BK505 := zk BK505 hb; replace HB := zb HB hb; (try clear hb); (try clear hb2); (try clear hk); (try clear hi); obtain ⟨hcz38_0, hcz38_1, hcz38_2, hcz38_3, hfz38_0, hfz38_1, hfz38_2, hfz38_3⟩ := zq4 BK504) | ((with_reducible refine gate_callee (f := 73) rfl ?_); refine goesL_ (some 37) rfl rfl Try.func73 (by kernel_rfl) rfl #[.agg #[.int .i64 a1_0, .int .i64 a1_1, .int .i64 a1_2, .int .i64 a1_3], .int .i64 1] rfl (by (try simp only [List.map_toArray, List.map_cons, List.map_nil]); first | done | rfl | (simp only [List.length_drop, List.length_take]; rfl)) ?_; (with_reducible refine (imageeditorref02_span.calls kj2 a1_0 a1_1 a1_2 a1_3 1 t514 t515 _ A23.out).mono ?_); rintro e w39 ⟨rfl, hb⟩; refine ⟨_, rfl, ?_⟩; replace BK503 := zk BK503 hb; replace BK504 := zk BK504 hb; replace BK505 := zk BK505 hb; replace HB := zb HB hb; (try clear hb); (try clear hb2); (try clear hk); (try clear hi)) | ((with_reducible refine gate_callee (f := 75) rfl ?_); refine goesL_ (some 52) rfl rfl Try.func75 (by kernel_rfl) rfl #[.int .i64 ji24, .int .i64 ji25, .int .i64 ji26, .int .i64 ji27] rfl (by (try simp only [List.map_toArray, List.map_cons, List.map_nil]); first | done | (simp only [hji24, hji25, hji26, hji27]; rfl) | rfl | (simp only [List.length_drop, List.length_take]; rfl)) ?_; (with_reducible refine (imageeditorref02_of.calls ji24 ji25 ji26 ji27 t516 t517 t518 t519 _ A28.out).mono ?_); rintro e w40 ⟨rfl, hb⟩; refine ⟨_, rfl, ?_⟩; replace BK503 := zk BK503 hb; replace BK504 := zk BK504 hb; replace BK505 := zk BK505 hb; replace HB := zb HB hb; (try clear hb); (try clear hb2); (try clear hk); (try clear hi); obtain ⟨hcz41_0, hcz41_1, hcz41_2, hcz41_3, hfz41_0, hfz41_1, hfz41_2, hfz41_3⟩ := zq4 BK505))
    refine bodyPost_ret (results_cell_row rfl _ _ gb505 34 #[.int .i64 t516, .int .i64 t517, .int .i64 t518, .int .i64 t519] (0, 0) _ rfl (by exact zp BK505 rfl) Try.underlying34 rfl (by kernel_rfl)) rfl ?_
    exact ⟨by first | rfl | (simp [errW_none, errW_some] <;> rfl) | (simp only [← hji24, ← hji25, ← hji26, ← hji27]; first | rfl | (simp [errW_none, errW_some] <;> rfl)) | (simp [*, errW_none, errW_some] <;> rfl), by exact zbo HB GE505⟩

/-! ### imageeditorref02_limit: function 76 -/
def imageeditorref02_limit.f (a0 : Int) : Option (Int) := some (mn (mx a0 (-3145728)) 3145728)
set_option maxHeartbeats 8000000 in
set_option maxRecDepth 100000 in
theorem imageeditorref02_limit.calls (a0 : Int) (r : Int) (w : World) (h : imageeditorref02_limit.f a0 = some r) :
  Calls Try.prog 76 #[.int .i64 a0] w fun e w' => e = .returned (.int .i64 r) ∧ Below w.heap.size w w' := by
 have HB := Aside0.mk (Below.refl w.heap.size w)
 have H : (some (mn (mx a0 (-3145728)) 3145728)) = some r := h
 clear h
 obtain ⟨ji2, hji2⟩ : ∃ j_ : Int, (mx a0 (-3145728)) = j_ := ⟨_, rfl⟩
 replace H : (some (mn (ji2) 3145728)) = some r := by first | (rw [hji2] at H; exact H) | (simp only [hji2] at H ⊢; exact H)
 have hji2_ : (if a0 < (-3145728) then (-3145728) else a0) = ji2 := hji2
 obtain ⟨ji3, hji3⟩ : ∃ j_ : Int, (mn (ji2) 3145728) = j_ := ⟨_, rfl⟩
 replace H : (some ji3) = some r := by first | (rw [hji3] at H; exact H) | (simp only [hji3] at H ⊢; exact H)
 have hji3_ : (if 3145728 < (ji2) then 3145728 else (ji2)) = ji3 := hji3
 obtain rfl := Option.some.inj H
 go_enter Try.func76, Try.ntmps76
 go_wp2
 go_ret
 exact ⟨by first | rfl | (simp [errW_none, errW_some] <;> rfl) | (simp only [← hji2, ← hji3]; first | rfl | (simp [errW_none, errW_some] <;> rfl)) | (simp [*, errW_none, errW_some] <;> rfl), by exact zb0 HB⟩

/-! ### imageeditorref02_world: function 77 -/
def imageeditorref02_world.f (a0 : Int) (a1 : Int) (a2 : Int) (a3 : Int) : Option (Int × Int × Int × Int) := (imageeditorref02_of.f (mx a0 (-1048576)) (mn a1 1048575) (mx a2 (-1048576)) (mn a3 1048575)).bind fun bt521 => (some (bt521.1, bt521.2.1, bt521.2.2.1, bt521.2.2.2))
set_option maxHeartbeats 8000000 in
set_option maxRecDepth 100000 in
theorem imageeditorref02_world.calls (a0 : Int) (a1 : Int) (a2 : Int) (a3 : Int) (r1 : Int) (r2 : Int) (r3 : Int) (r4 : Int) (w : World) (h : imageeditorref02_world.f a0 a1 a2 a3 = some (r1, r2, r3, r4)) :
  Calls Try.prog 77 #[.int .i64 a0, .int .i64 a1, .int .i64 a2, .int .i64 a3] w fun e w' => e = .returned (.agg #[.int .i64 r1, .int .i64 r2, .int .i64 r3, .int .i64 r4]) ∧ Below w.heap.size w w' := by
 have hu34 := Try.underlying34
 have HB := Aside0.mk (Below.refl w.heap.size w)
 have H : ((imageeditorref02_of.f (mx a0 (-1048576)) (mn a1 1048575) (mx a2 (-1048576)) (mn a3 1048575)).bind fun bt521 => (some (bt521.1, bt521.2.1, bt521.2.2.1, bt521.2.2.2))) = some (r1, r2, r3, r4) := h
 clear h
 obtain ⟨ji5, hji5⟩ : ∃ j_ : Int, (mx a0 (-1048576)) = j_ := ⟨_, rfl⟩
 replace H : ((imageeditorref02_of.f (ji5) (mn a1 1048575) (mx a2 (-1048576)) (mn a3 1048575)).bind fun bt521 => (some (bt521.1, bt521.2.1, bt521.2.2.1, bt521.2.2.2))) = some (r1, r2, r3, r4) := by first | (rw [hji5] at H; exact H) | (simp only [hji5] at H ⊢; exact H)
 have hji5_ : (if a0 < (-1048576) then (-1048576) else a0) = ji5 := hji5
 obtain ⟨ji6, hji6⟩ : ∃ j_ : Int, (mn a1 1048575) = j_ := ⟨_, rfl⟩
 replace H : ((imageeditorref02_of.f (ji5) (ji6) (mx a2 (-1048576)) (mn a3 1048575)).bind fun bt521 => (some (bt521.1, bt521.2.1, bt521.2.2.1, bt521.2.2.2))) = some (r1, r2, r3, r4) := by first | (rw [hji6] at H; exact H) | (simp only [hji6] at H ⊢; exact H)
 (try (have hji6h : ji6 ≤ 1048575 := by (rw [← hji6]; unfold mn; (repeat' split) <;> omega)))
 (try (have hji6g : ji6 ≤ 64 := by omega))
 have hji6_ : (if 1048575 < a1 then 1048575 else a1) = ji6 := hji6
 obtain ⟨ji7, hji7⟩ : ∃ j_ : Int, (mx a2 (-1048576)) = j_ := ⟨_, rfl⟩
 replace H : ((imageeditorref02_of.f (ji5) (ji6) (ji7) (mn a3 1048575)).bind fun bt521 => (some (bt521.1, bt521.2.1, bt521.2.2.1, bt521.2.2.2))) = some (r1, r2, r3, r4) := by first | (rw [hji7] at H; exact H) | (simp only [hji7] at H ⊢; exact H)
 have hji7_ : (if a2 < (-1048576) then (-1048576) else a2) = ji7 := hji7
 obtain ⟨ji8, hji8⟩ : ∃ j_ : Int, (mn a3 1048575) = j_ := ⟨_, rfl⟩
 replace H : ((imageeditorref02_of.f (ji5) (ji6) (ji7) (ji8)).bind fun bt521 => (some (bt521.1, bt521.2.1, bt521.2.2.1, bt521.2.2.2))) = some (r1, r2, r3, r4) := by first | (rw [hji8] at H; exact H) | (simp only [hji8] at H ⊢; exact H)
 (try (have hji8h : ji8 ≤ 1048575 := by (rw [← hji8]; unfold mn; (repeat' split) <;> omega)))
 (try (have hji8g : ji8 ≤ 64 := by omega))
 have hji8_ : (if 1048575 < a3 then 1048575 else a3) = ji8 := hji8
 replace H := Option.bind_eq_some_iff.mp H
 obtain ⟨⟨t521, t522, t523, t524⟩, A90, H⟩ := H
 replace H : (some (t521, t522, t523, t524)) = some (r1, r2, r3, r4) := H
 have A9 := Aside0.mk A90
 clear A90
 simp only [Option.some.injEq, Prod.mk.injEq] at H
 obtain ⟨rfl, rfl, rfl, rfl⟩ := H
 go_enter Try.func77, Try.ntmps77
 go_wp2_with (first | ((with_reducible refine gate_dst (N := 8) rfl ?_); refine box_event ?hg (N := 8) ?hd (cs := #[.int .i64 0, .int .i64 0, .int .i64 0, .int .i64 0]) (t := 34) ?hr ?_; (case hd => rfl); (case hg => rfl); (case hr => first | (go_simp; done) | (go_simp; rfl)); intro gb520 hg w10 hbox hb; have GW520 := zg HB hg; have GE520 := zg HB hg; have n0_ := Aside0.mk (hbox); replace HB := zb HB hb; have BK520 := n0_; clear n0_; clear hb hbox hg) | ((with_reducible refine gate_callee (f := 75) rfl ?_); refine goesL_ (some 17) rfl rfl Try.func75 (by kernel_rfl) rfl #[.int .i64 ji5, .int .i64 ji6, .int .i64 ji7, .int .i64 ji8] rfl (by (try simp only [List.map_toArray, List.map_cons, List.map_nil]); first | done | (simp only [hji5, hji6, hji7, hji8]; rfl) | rfl | (simp only [List.length_drop, List.length_take]; rfl)) ?_; (with_reducible refine (imageeditorref02_of.calls ji5 ji6 ji7 ji8 t521 t522 t523 t524 _ A9.out).mono ?_); rintro e w11 ⟨rfl, hb⟩; refine ⟨_, rfl, ?_⟩; replace BK520 := zk BK520 hb; replace HB := zb HB hb; (try clear hb); (try clear hb2); (try clear hk); (try clear hi); obtain ⟨hcz12_0, hcz12_1, hcz12_2, hcz12_3, hfz12_0, hfz12_1, hfz12_2, hfz12_3⟩ := zq4 BK520))
 refine bodyPost_ret (results_cell_row rfl _ _ gb520 34 #[.int .i64 t521, .int .i64 t522, .int .i64 t523, .int .i64 t524] (0, 0) _ rfl (by exact zp BK520 rfl) Try.underlying34 rfl (by kernel_rfl)) rfl ?_
 exact ⟨by first | rfl | (simp [errW_none, errW_some] <;> rfl) | (simp only [← hji5, ← hji6, ← hji7, ← hji8]; first | rfl | (simp [errW_none, errW_some] <;> rfl)) | (simp [*, errW_none, errW_some] <;> rfl), by exact zbo HB GE520⟩

/-! ### imageeditorref02_Grow: function 45 -/
def imageeditorref02_Grow.f (k : Nat) (a0_0 : Int) (a0_1 : Int) (a0_2 : Int) (a0_3 : Int) (a1 : Int) : Option (Int × Int × Int × Int) := (imageeditorref02_Empty.f a0_0 a0_1 a0_2 a0_3).bind fun t527 => (if t527 = true then (some (0, 0, 0, 0)) else ((imageeditorref02_span.f k a0_0 a0_1 a0_2 a0_3 0).bind fun bt528 => ((imageeditorref02_span.f k a0_0 a0_1 a0_2 a0_3 1).bind fun bt530 => ((imageeditorref02_limit.f a1).bind fun t532 => ((imageeditorref02_world.f (wrap64 (bt528.1 - t532)) (wrap64 (bt528.2 + t532)) (wrap64 (bt530.1 - t532)) (wrap64 (bt530.2 + t532))).bind fun bt533 => (some (bt533.1, bt533.2.1, bt533.2.2.1, bt533.2.2.2)))))))
theorem imageeditorref02_Grow.mono : ∀ a0 a1 a2 a3 a4 k, LeO (imageeditorref02_Grow.f k a0 a1 a2 a3 a4) (imageeditorref02_Grow.f (k + 1) a0 a1 a2 a3 a4) := by
 intro a0 a1 a2 a3 a4 k
 unfold imageeditorref02_Grow.f
 repeat' first
   | (with_reducible exact imageeditorref02_span.mono _ _ _ _ _ _)
   | (with_reducible exact LeO.refl _)
   | (with_reducible exact LeO.none _)
   | (with_reducible refine LeO.ite ?_ ?_)
   | (with_reducible refine LeO.bind ?_ (fun _ => ?_))
   | exact imageeditorref02_span.mono _ _ _ _ _ _
   | exact LeO.none _
   | refine LeO.ite ?_ ?_
   | refine LeO.bind ?_ (fun _ => ?_)
set_option maxHeartbeats 8000000 in
set_option maxRecDepth 100000 in
theorem imageeditorref02_Grow.calls (k : Nat) (a0_0 : Int) (a0_1 : Int) (a0_2 : Int) (a0_3 : Int) (a1 : Int) (r1 : Int) (r2 : Int) (r3 : Int) (r4 : Int) (w : World) (h : imageeditorref02_Grow.f k a0_0 a0_1 a0_2 a0_3 a1 = some (r1, r2, r3, r4)) :
  Calls Try.prog 45 #[.agg #[.int .i64 a0_0, .int .i64 a0_1, .int .i64 a0_2, .int .i64 a0_3], .int .i64 a1] w fun e w' => e = .returned (.agg #[.int .i64 r1, .int .i64 r2, .int .i64 r3, .int .i64 r4]) ∧ Below w.heap.size w w' := by
 have hu34 := Try.underlying34
 have HB := Aside0.mk (Below.refl w.heap.size w)
 have H : ((imageeditorref02_Empty.f a0_0 a0_1 a0_2 a0_3).bind fun t527 => (if t527 = true then (some (0, 0, 0, 0)) else ((imageeditorref02_span.f k a0_0 a0_1 a0_2 a0_3 0).bind fun bt528 => ((imageeditorref02_span.f k a0_0 a0_1 a0_2 a0_3 1).bind fun bt530 => ((imageeditorref02_limit.f a1).bind fun t532 => ((imageeditorref02_world.f (wrap64 (bt528.1 - t532)) (wrap64 (bt528.2 + t532)) (wrap64 (bt530.1 - t532)) (wrap64 (bt530.2 + t532))).bind fun bt533 => (some (bt533.1, bt533.2.1, bt533.2.2.1, bt533.2.2.2)))))))) = some (r1, r2, r3, r4) := h
 clear h
 replace H := Option.bind_eq_some_iff.mp H
 obtain ⟨t527, A30, H⟩ := H
 replace H : (if t527 = true then (some (0, 0, 0, 0)) else ((imageeditorref02_span.f k a0_0 a0_1 a0_2 a0_3 0).bind fun bt528 => ((imageeditorref02_span.f k a0_0 a0_1 a0_2 a0_3 1).bind fun bt530 => ((imageeditorref02_limit.f a1).bind fun t532 => ((imageeditorref02_world.f (wrap64 (bt528.1 - t532)) (wrap64 (bt528.2 + t532)) (wrap64 (bt530.1 - t532)) (wrap64 (bt530.2 + t532))).bind fun bt533 => (some (bt533.1, bt533.2.1, bt533.2.2.1, bt533.2.2.2))))))) = some (r1, r2, r3, r4) := H
 have A3 := Aside0.mk A30
 clear A30
 by_cases c4 : t527 = true
 ·subst c4
  have H1 : (some (0, 0, 0, 0)) = some (r1, r2, r3, r4) := by rw [if_pos rfl] at H; exact H
  clear H
  have H := H1
  clear H1
  simp only [Option.some.injEq, Prod.mk.injEq] at H
  obtain ⟨rfl, rfl, rfl, rfl⟩ := H
  go_enter Try.func45, Try.ntmps45
  go_wp2_with (first | ((with_reducible refine gate_dst (N := 2) rfl ?_); refine box_event ?hg (N := 2) ?hd (cs := #[.int .i64 a0_0, .int .i64 a0_1, .int .i64 a0_2, .int .i64 a0_3]) (t := 34) ?hr ?_; (case hd => rfl); (case hg => rfl); (case hr => first | (go_simp; done) | (go_simp; rfl)); intro gb525 hg w5 hbox hb; have GW525 := zg HB hg; have GE525 := zg HB hg; have n0_ := Aside0.mk (hbox); replace HB := zb HB hb; have BK525 := n0_; clear n0_; clear hb hbox hg) | ((with_reducible refine gate_dst (N := 4) rfl ?_); refine box_event ?hg (N := 4) ?hd (cs := #[.int .i64 0, .int .i64 0, .int .i64 0, .int .i64 0]) (t := 34) ?hr ?_; (case hd => rfl); (case hg => rfl); (case hr => first | (go_simp; done) | (go_simp; rfl)); intro gb526 hg w6 hbox hb; have GW526 := zg HB hg; have GE526 := zg HB hg; have NB525_526 := zn BK525 hg; have NB526_525 := zn' BK525 hg; have n0_ := Aside0.mk (hbox); replace BK525 := zk BK525 hb; replace HB := zb HB hb; have BK526 := n0_; clear n0_; clear hb hbox hg; have hnb7 := NB525_526.out; have hnc7 := NB526_525.out; obtain ⟨hcz8_0, hcz8_1, hcz8_2, hcz8_3, hfz8_0, hfz8_1, hfz8_2, hfz8_3⟩ := zq4 BK525) | ((with_reducible refine gate_callee (f := 42) rfl ?_); refine goesL_ (some 11) rfl rfl Try.func42 (by kernel_rfl) rfl #[.agg #[.int .i64 a0_0, .int .i64 a0_1, .int .i64 a0_2, .int .i64 a0_3]] rfl (by (try simp only [List.map_toArray, List.map_cons, List.map_nil]); first | done | rfl | (simp only [List.length_drop, List.length_take]; rfl)) ?_; (with_reducible refine (imageeditorref02_Empty.calls a0_0 a0_1 a0_2 a0_3 true _ A3.out).mono ?_); rintro e w9 ⟨rfl, hb⟩; refine ⟨_, rfl, ?_⟩; replace BK525 := zk BK525 hb; replace BK526 := zk BK526 hb; replace HB := zb HB hb; (try clear hb); (try clear hb2); (try clear hk); (try clear hi); obtain ⟨hcz10_0, hcz10_1, hcz10_2, hcz10_3, hfz10_0, hfz10_1, hfz10_2, hfz10_3⟩ := zq4 BK526))
  refine bodyPost_ret (results_cell_row rfl _ _ gb526 34 #[.int .i64 0, .int .i64 0, .int .i64 0, .int .i64 0] (0, 0) _ rfl (by exact zp BK526 rfl) Try.underlying34 rfl (by kernel_rfl)) rfl ?_
  exact ⟨by first | rfl | (simp [errW_none, errW_some] <;> rfl) | (simp [*, errW_none, errW_some] <;> rfl), by exact zbo HB GE526⟩
 ·replace c4 := Bool.eq_false_iff.mpr c4
  subst c4
  have H1 : ((imageeditorref02_span.f k a0_0 a0_1 a0_2 a0_3 0).bind fun bt528 => ((imageeditorref02_span.f k a0_0 a0_1 a0_2 a0_3 1).bind fun bt530 => ((imageeditorref02_limit.f a1).bind fun t532 => ((imageeditorref02_world.f (wrap64 (bt528.1 - t532)) (wrap64 (bt528.2 + t532)) (wrap64 (bt530.1 - t532)) (wrap64 (bt530.2 + t532))).bind fun bt533 => (some (bt533.1, bt533.2.1, bt533.2.2.1, bt533.2.2.2)))))) = some (r1, r2, r3, r4) := by rw [if_neg (show ¬ (false = true) by decide)] at H; exact H
  clear H
  have H := H1
  clear H1
  replace H := Option.bind_eq_some_iff.mp H
  obtain ⟨⟨t528, t529⟩, A110, H⟩ := H
  replace H : ((imageeditorref02_span.f k a0_0 a0_1 a0_2 a0_3 1).bind fun bt530 => ((imageeditorref02_limit.f a1).bind fun t532 => ((imageeditorref02_world.f (wrap64 (t528 - t532)) (wrap64 (t529 + t532)) (wrap64 (bt530.1 - t532)) (wrap64 (bt530.2 + t532))).bind fun bt533 => (some (bt533.1, bt533.2.1, bt533.2.2.1, bt533.2.2.2))))) = some (r1, r2, r3, r4) := H
  have A11 := Aside0.mk A110
  clear A110
  replace H := Option.bind_eq_some_iff.mp H
  obtain ⟨⟨t530, t531⟩, A120, H⟩ := H
  replace H : ((imageeditorref02_limit.f a1).bind fun t532 => ((imageeditorref02_world.f (wrap64 (t528 - t532)) (wrap64 (t529 + t532)) (wrap64 (t530 - t532)) (wrap64 (t531 + t532))).bind fun bt533 => (some (bt533.1, bt533.2.1, bt533.2.2.1, bt533.2.2.2)))) = some (r1, r2, r3, r4) := H
  have A12 := Aside0.mk A120
  clear A120
  replace H := Option.bind_eq_some_iff.mp H
  obtain ⟨t532, A130, H⟩ := H
  replace H : ((imageeditorref02_world.f (wrap64 (t528 - t532)) (wrap64 (t529 + t532)) (wrap64 (t530 - t532)) (wrap64 (t531 + t532))).bind fun bt533 => (some (bt533.1, bt533.2.1, bt533.2.2.1, bt533.2.2.2))) = some (r1, r2, r3, r4) := H
  have A13 := Aside0.mk A130
  clear A130
  replace H := Option.bind_eq_some_iff.mp H
  obtain ⟨⟨t533, t534, t535, t536⟩, A140, H⟩ := H
  replace H : (some (t533, t534, t535, t536)) = some (r1, r2, r3, r4) := H
  have A14 := Aside0.mk A140
  clear A140
  simp only [Option.some.injEq, Prod.mk.injEq] at H
  obtain ⟨rfl, rfl, rfl, rfl⟩ := H
  go_enter Try.func45, Try.ntmps45
  go_wp2_with (first | ((with_reducible refine gate_dst (N := 2) rfl ?_); refine box_event ?hg (N := 2) ?hd (cs := #[.int .i64 a0_0, .int .i64 a0_1, .int .i64 a0_2, .int .i64 a0_3]) (t := 34) ?hr ?_; (case hd => rfl); (case hg => rfl); (case hr => first | (go_simp; done) | (go_simp; rfl)); intro gb525 hg w15 hbox hb; have GW525 := zg HB hg; have GE525 := zg HB hg; have n0_ := Aside0.mk (hbox); replace HB := zb HB hb; have BK525 := n0_; clear n0_; clear hb hbox hg) | ((with_reducible refine gate_dst (N := 4) rfl ?_); refine box_event ?hg (N := 4) ?hd (cs := #[.int .i64 0, .int .i64 0, .int .i64 0, .int .i64 0]) (t := 34) ?hr ?_; (case hd => rfl); (case hg => rfl); (case hr => first | (go_simp; done) | (go_simp; rfl)); intro gb526 hg w16 hbox hb; have GW526 := zg HB hg; have GE526 := zg HB hg; have NB525_526 := zn BK525 hg; have NB526_525 := zn' BK525 hg; have n0_ := Aside0.mk (hbox); replace BK525 := zk BK525 hb; replace HB := zb HB hb; have BK526 := n0_; clear n0_; clear hb hbox hg; have hnb17 := NB525_526.out; have hnc17 := NB526_525.out; obtain ⟨hcz18_0, hcz18_1, hcz18_2, hcz18_3, hfz18_0, hfz18_1, hfz18_2, hfz18_3⟩ := zq4 BK525) | ((with_reducible refine gate_callee (f := 42) rfl ?_); refine goesL_ (some 11) rfl rfl Try.func42 (by kernel_rfl) rfl #[.agg #[.int .i64 a0_0, .int .i64 a0_1, .int .i64 a0_2, .int .i64 a0_3]] rfl (by (try simp only [List.map_toArray, List.map_cons, List.map_nil]); first | done | rfl | (simp only [List.length_drop, List.length_take]; rfl)) ?_; (with_reducible refine (imageeditorref02_Empty.calls a0_0 a0_1 a0_2 a0_3 false _ A3.out).mono ?_); rintro e w19 ⟨rfl, hb⟩; refine ⟨_, rfl, ?_⟩; replace BK525 := zk BK525 hb; replace BK526 := zk BK526 hb; replace HB := zb HB hb; (try clear hb); (try clear hb2); (try clear hk); (try clear hi); obtain ⟨hcz20_0, hcz20_1, hcz20_2, hcz20_3, hfz20_0, hfz20_1, hfz20_2, hfz20_3⟩ := zq4 BK525) | ((with_reducible refine gate_callee (f := 73) rfl ?_); refine goesL_ (some 15) rfl rfl Try.func73 (by kernel_rfl) rfl #[.agg #[.int .i64 a0_0, .int .i64 a0_1, .int .i64 a0_2, .int .i64 a0_3], .int .i64 0] rfl (by (try simp only [List.map_toArray, List.map_cons, List.map_nil]); first | done | rfl | (simp only [List.length_drop, List.length_take]; rfl)) ?_; (with_reducible refine (imageeditorref02_span.calls k a0_0 a0_1 a0_2 a0_3 0 t528 t529 _ A11.out).mono ?_); rintro e w21 ⟨rfl, hb⟩; refine ⟨_, rfl, ?_⟩; replace BK525 := zk BK525 hb; replace BK526 := zk BK526 hb; replace HB := zb HB hb; (try clear hb); (try clear hb2); (try clear hk); (try clear hi); obtain ⟨hcz22_0, hcz22_1, hcz22_2, hcz22_3, hfz22_0, hfz22_1, hfz22_2, hfz22_3⟩ := zq4 BK525) | ((with_reducible refine gate_callee (f := 73) rfl ?_); refine goesL_ (some 20) rfl rfl Try.func73 (by kernel_rfl) rfl #[.agg #[.int .i64 a0_0, .int .i64 a0_1, .int .i64 a0_2, .int .i64 a0_3], .int .i64 1] rfl (by (try simp only [List.map_toArray, List.map_cons, List.map_nil]); first | done | rfl | (simp only [List.length_drop, List.length_take]; rfl)) ?_; (with_reducible refine (imageeditorref02_span.calls k a0_0 a0_1 a0_2 a0_3 1 t530 t531 _ A12.out).mono ?_); rintro e w23 ⟨rfl, hb⟩; refine ⟨_, rfl, ?_⟩; replace BK525 := zk BK525 hb; replace BK526 := zk BK526 hb; replace HB := zb HB hb; (try clear hb); (try clear hb2); (try clear hk); (try clear hi)) | ((with_reducible refine gate_callee (f := 76) rfl ?_); refine goesL_ (some 24) rfl rfl Try.func76 (by kernel_rfl) rfl #[.int .i64 a1] rfl (by (try simp only [List.map_toArray, List.map_cons, List.map_nil]); first | done | rfl | (simp only [List.length_drop, List.length_take]; rfl)) ?_; (with_reducible refine (imageeditorref02_limit.calls a1 t532 _ A13.out).mono ?_); rintro e w24 ⟨rfl, hb⟩; refine ⟨_, rfl, ?_⟩; replace BK525 := zk BK525 hb; replace BK526 := zk BK526 hb; replace HB := zb HB hb; (try clear hb); (try clear hb2); (try clear hk); (try clear hi)) | ((with_reducible refine gate_callee (f := 77) rfl ?_); refine goesL_ (some 37) rfl rfl Try.func77 (by kernel_rfl) rfl #[.int .i64 (wrap64 (t528 - t532)), .int .i64 (wrap64 (t529 + t532)), .int .i64 (wrap64 (t530 - t532)), .int .i64 (wrap64 (t531 + t532))] rfl (by (try simp only [List.map_toArray, List.map_cons, List.map_nil]); first | done | rfl | (simp only [List.length_drop, List.length_take]; rfl)) ?_; (with_reducible refine (imageeditorref02_world.calls (wrap64 (t528 - t532)) (wrap64 (t529 + t532)) (wrap64 (t530 - t532)) (wrap64 (t531 + t532)) t533 t534 t535 t536 _ A14.out).mono ?_); rintro e w25 ⟨rfl, hb⟩; refine ⟨_, rfl, ?_⟩; replace BK525 := zk BK525 hb; replace BK526 := zk BK526 hb; replace HB := zb HB hb; (try clear hb); (try clear hb2); (try clear hk); (try clear hi); obtain ⟨hcz26_0, hcz26_1, hcz26_2, hcz26_3, hfz26_0, hfz26_1, hfz26_2, hfz26_3⟩ := zq4 BK526))
  refine bodyPost_ret (results_cell_row rfl _ _ gb526 34 #[.int .i64 t533, .int .i64 t534, .int .i64 t535, .int .i64 t536] (0, 0) _ rfl (by exact zp BK526 rfl) Try.underlying34 rfl (by kernel_rfl)) rfl ?_
  exact ⟨by first | rfl | (simp [errW_none, errW_some] <;> rfl) | (simp [*, errW_none, errW_some] <;> rfl), by exact zbo HB GE526⟩

end Go.Proofs.Ytnfbabmceddciaa.G
