/- Contracts of functions of the program, each as it is called: what it computes (.f), that it computes no less with more rounds (.mono), and that a call returns just that (.calls). No conditions but those that each contract names. Written by a program of this session (wip/gx.py over the kit's print). -/
import Derived.Test.YtapdifpmijgkcaaG0
namespace Go.Proofs.Ytapdifpmijgkcaa.G
open Go.RowKit Go.Proofs.YtapdifpmijgkcaaW.PrintWords Go.Proofs.YtapdifpmijgkcaaW.PrintLast Go.Proofs.YtapdifpmijgkcaaW.PrintMore
attribute [local go_sem] max2_int min2_int max_two min_two max_three min_three max_four min_four   -- for this text's walks alone
set_option linter.unusedVariables false
set_option linter.unusedSimpArgs false


/-! ### raster_get: function 32 -/
def raster_get.f (a0_0 : Int) (a0_1 : Int) (l0_2 : List (S37)) (a1 : Int) (a2 : Int) : Option (Int × Int × Int × Int) := if a1 < 0 then (some (0, 0, 0, 0)) else (if a1 ≥ a0_0 then (some (0, 0, 0, 0)) else (if a2 < 0 then (some (0, 0, 0, 0)) else (if a2 ≥ a0_1 then (some (0, 0, 0, 0)) else (if 0 ≤ (wrap64 ((wrap64 (a2 * a0_0)) + a1)) then (if (wrap64 ((wrap64 (a2 * a0_0)) + a1)) < (l0_2.length : Int) then (some ((rd_T37 l0_2 (wrap64 ((wrap64 (a2 * a0_0)) + a1))).f0, (rd_T37 l0_2 (wrap64 ((wrap64 (a2 * a0_0)) + a1))).f1, (rd_T37 l0_2 (wrap64 ((wrap64 (a2 * a0_0)) + a1))).f2, (rd_T37 l0_2 (wrap64 ((wrap64 (a2 * a0_0)) + a1))).f3)) else (none)) else (none)))))
set_option maxHeartbeats 8000000 in
set_option maxRecDepth 100000 in
theorem raster_get.calls (a0_0 : Int) (a0_1 : Int) (A0_2 : Option Addr) (c0_2 : Nat) (l0_2 : List (S37)) (a1 : Int) (a2 : Int) (r1 : Int) (r2 : Int) (r3 : Int) (r4 : Int) (w : World) (hr0_2 : Kd.C k37 w A0_2 l0_2.length l0_2) (hc0_2 : l0_2.length ≤ c0_2) (h : raster_get.f a0_0 a0_1 l0_2 a1 a2 = some (r1, r2, r3, r4)) :
  Calls Try.prog 32 #[.agg #[.int .i64 a0_0, .int .i64 a0_1, .slice A0_2 l0_2.length c0_2], .int .i64 a1, .int .i64 a2] w fun e w' => e = .returned (.agg #[.int .i64 r1, .int .i64 r2, .int .i64 r3, .int .i64 r4]) ∧ Below w.heap.size w w' := by
 have hu24 := Try.underlying24
 have hu37 := Try.underlying37
 have G6 := Aside0.mk hr0_2
 have V1 := Aside0.mk hc0_2
 clear hr0_2 hc0_2
 have HB := Aside0.mk (Below.refl w.heap.size w)
 have H : (if a1 < 0 then (some (0, 0, 0, 0)) else (if a1 ≥ a0_0 then (some (0, 0, 0, 0)) else (if a2 < 0 then (some (0, 0, 0, 0)) else (if a2 ≥ a0_1 then (some (0, 0, 0, 0)) else (if 0 ≤ (wrap64 ((wrap64 (a2 * a0_0)) + a1)) then (if (wrap64 ((wrap64 (a2 * a0_0)) + a1)) < (l0_2.length : Int) then (some ((rd_T37 l0_2 (wrap64 ((wrap64 (a2 * a0_0)) + a1))).f0, (rd_T37 l0_2 (wrap64 ((wrap64 (a2 * a0_0)) + a1))).f1, (rd_T37 l0_2 (wrap64 ((wrap64 (a2 * a0_0)) + a1))).f2, (rd_T37 l0_2 (wrap64 ((wrap64 (a2 * a0_0)) + a1))).f3)) else (none)) else (none)))))) = some (r1, r2, r3, r4) := h
 clear h
 by_cases c4 : a1 < 0
 ·rw [if_pos c4] at H
  have G7 : decide (a1 < 0) = true := decide_eq_true c4
  clear c4
  simp only [Option.some.injEq, Prod.mk.injEq] at H
  obtain ⟨rfl, rfl, rfl, rfl⟩ := H
  go_enter Try.func32, Try.ntmps32
  go_wp2_with (first | ((with_reducible refine gate_dst (N := 3) rfl ?_); refine box_event ?hg (N := 3) ?hd (cs := #[.int .i64 a0_0, .int .i64 a0_1, .slice A0_2 l0_2.length c0_2]) (t := 24) ?hr ?_; (case hd => rfl); (case hg => rfl); (case hr => first | (go_simp; done) | (go_simp; rfl)); intro E7 hg w5 hbox hb; have E8 := zg HB hg; have E9 := zg HB hg; have n0_ := Aside0.mk (hbox); replace HB := zb HB hb; have E0 := n0_; clear n0_; clear hb hbox hg) | ((with_reducible refine gate_dst (N := 6) rfl ?_); refine box_event ?hg (N := 6) ?hd (cs := #[.int .i64 0, .int .i64 0, .int .i64 0, .int .i64 0]) (t := 37) ?hr ?_; (case hd => rfl); (case hg => rfl); (case hr => first | (go_simp; done) | (go_simp; rfl)); intro E3 hg w6 hbox hb; have G0 := zg HB hg; have E4 := zg HB hg; have E5 := zn E0 hg; have E6 := zn' E0 hg; have n0_ := Aside0.mk (hbox); replace E0 := zk E0 hb; replace HB := zb HB hb; have E2 := n0_; clear n0_; clear hb hbox hg; have V2 := E6.out; have V3 := E5.out; obtain ⟨V4, V5, V6, V7, V8, V9, Y0, Y1⟩ := zq4 E2))
  refine bodyPost_ret (results_cell_row rfl _ _ E3 37 #[.int .i64 0, .int .i64 0, .int .i64 0, .int .i64 0] (0, 0) _ rfl (by exact zp E2 rfl) Try.underlying37 rfl (by kernel_rfl)) rfl ?_
  exact ⟨by first | rfl | (simp [errW_none, errW_some] <;> rfl) | (simp [*, errW_none, errW_some] <;> rfl), by exact zbo HB E4⟩
 rw [if_neg c4] at H
 have G7 : decide (a1 < 0) = false := decide_eq_false c4
 clear c4
 by_cases c9 : a1 ≥ a0_0
 ·rw [if_pos c9] at H
  have G8 : decide (a0_0 ≤ a1) = true := decide_eq_true c9
  clear c9
  simp only [Option.some.injEq, Prod.mk.injEq] at H
  obtain ⟨rfl, rfl, rfl, rfl⟩ := H
  go_enter Try.func32, Try.ntmps32
  go_wp2_with (first | ((with_reducible refine gate_dst (N := 3) rfl ?_); refine box_event ?hg (N := 3) ?hd (cs := #[.int .i64 a0_0, .int .i64 a0_1, .slice A0_2 l0_2.length c0_2]) (t := 24) ?hr ?_; (case hd => rfl); (case hg => rfl); (case hr => first | (go_simp; done) | (go_simp; rfl)); intro E7 hg w10 hbox hb; have E8 := zg HB hg; have E9 := zg HB hg; have n0_ := Aside0.mk (hbox); replace HB := zb HB hb; have E0 := n0_; clear n0_; clear hb hbox hg) | ((with_reducible refine gate_dst (N := 6) rfl ?_); refine box_event ?hg (N := 6) ?hd (cs := #[.int .i64 0, .int .i64 0, .int .i64 0, .int .i64 0]) (t := 37) ?hr ?_; (case hd => rfl); (case hg => rfl); (case hr => first | (go_simp; done) | (go_simp; rfl)); intro E3 hg w11 hbox hb; have G0 := zg HB hg; have E4 := zg HB hg; have E5 := zn E0 hg; have E6 := zn' E0 hg; have n0_ := Aside0.mk (hbox); replace E0 := zk E0 hb; replace HB := zb HB hb; have E2 := n0_; clear n0_; clear hb hbox hg; have Y2 := E5.out; have Y3 := E6.out; obtain ⟨Y4, Y5, Y6, Y7, Y8, Y9⟩ := zq3 E0; obtain ⟨Z0, Z1, Z2, Z3, Z4, Z5, Z6, Z7⟩ := zq4 E2))
  refine bodyPost_ret (results_cell_row rfl _ _ E3 37 #[.int .i64 0, .int .i64 0, .int .i64 0, .int .i64 0] (0, 0) _ rfl (by exact zp E2 rfl) Try.underlying37 rfl (by kernel_rfl)) rfl ?_
  exact ⟨by first | rfl | (simp [errW_none, errW_some] <;> rfl) | (simp [*, errW_none, errW_some] <;> rfl), by exact zbo HB E4⟩
 rw [if_neg c9] at H
 have G8 : decide (a0_0 ≤ a1) = false := decide_eq_false c9
 clear c9
 by_cases c15 : a2 < 0
 ·rw [if_pos c15] at H
  have G9 : decide (a2 < 0) = true := decide_eq_true c15
  clear c15
  simp only [Option.some.injEq, Prod.mk.injEq] at H
  obtain ⟨rfl, rfl, rfl, rfl⟩ := H
  go_enter Try.func32, Try.ntmps32
  go_wp2_with (first | ((with_reducible refine gate_dst (N := 3) rfl ?_); refine box_event ?hg (N := 3) ?hd (cs := #[.int .i64 a0_0, .int .i64 a0_1, .slice A0_2 l0_2.length c0_2]) (t := 24) ?hr ?_; (case hd => rfl); (case hg => rfl); (case hr => first | (go_simp; done) | (go_simp; rfl)); intro E7 hg w16 hbox hb; have E8 := zg HB hg; have E9 := zg HB hg; have n0_ := Aside0.mk (hbox); replace HB := zb HB hb; have E0 := n0_; clear n0_; clear hb hbox hg) | ((with_reducible refine gate_dst (N := 6) rfl ?_); refine box_event ?hg (N := 6) ?hd (cs := #[.int .i64 0, .int .i64 0, .int .i64 0, .int .i64 0]) (t := 37) ?hr ?_; (case hd => rfl); (case hg => rfl); (case hr => first | (go_simp; done) | (go_simp; rfl)); intro E3 hg w17 hbox hb; have G0 := zg HB hg; have E4 := zg HB hg; have E5 := zn E0 hg; have E6 := zn' E0 hg; have n0_ := Aside0.mk (hbox); replace E0 := zk E0 hb; replace HB := zb HB hb; have E2 := n0_; clear n0_; clear hb hbox hg; have Z8 := E5.out; have Z9 := E6.out; obtain ⟨J0, J1, J2, J3, J4, J5⟩ := zq3 E0; obtain ⟨J6, J7, J8, J9, L0, L1, L2, L3⟩ := zq4 E2))
  refine bodyPost_ret (results_cell_row rfl _ _ E3 37 #[.int .i64 0, .int .i64 0, .int .i64 0, .int .i64 0] (0, 0) _ rfl (by exact zp E2 rfl) Try.underlying37 rfl (by kernel_rfl)) rfl ?_
  exact ⟨by first | rfl | (simp [errW_none, errW_some] <;> rfl) | (simp [*, errW_none, errW_some] <;> rfl), by exact zbo HB E4⟩
 rw [if_neg c15] at H
 have G9 : decide (a2 < 0) = false := decide_eq_false c15
 clear c15
 by_cases c21 : a2 ≥ a0_1
 ·rw [if_pos c21] at H
  have V0 : decide (a0_1 ≤ a2) = true := decide_eq_true c21
  clear c21
  simp only [Option.some.injEq, Prod.mk.injEq] at H
  obtain ⟨rfl, rfl, rfl, rfl⟩ := H
  go_enter Try.func32, Try.ntmps32
  go_wp2_with (first | ((with_reducible refine gate_dst (N := 3) rfl ?_); refine box_event ?hg (N := 3) ?hd (cs := #[.int .i64 a0_0, .int .i64 a0_1, .slice A0_2 l0_2.length c0_2]) (t := 24) ?hr ?_; (case hd => rfl); (case hg => rfl); (case hr => first | (go_simp; done) | (go_simp; rfl)); intro E7 hg w22 hbox hb; have E8 := zg HB hg; have E9 := zg HB hg; have n0_ := Aside0.mk (hbox); replace HB := zb HB hb; have E0 := n0_; clear n0_; clear hb hbox hg) | ((with_reducible refine gate_dst (N := 6) rfl ?_); refine box_event ?hg (N := 6) ?hd (cs := #[.int .i64 0, .int .i64 0, .int .i64 0, .int .i64 0]) (t := 37) ?hr ?_; (case hd => rfl); (case hg => rfl); (case hr => first | (go_simp; done) | (go_simp; rfl)); intro E3 hg w23 hbox hb; have G0 := zg HB hg; have E4 := zg HB hg; have E5 := zn E0 hg; have E6 := zn' E0 hg; have n0_ := Aside0.mk (hbox); replace E0 := zk E0 hb; replace HB := zb HB hb; have E2 := n0_; clear n0_; clear hb hbox hg; have L4 := E5.out; have L5 := E6.out; obtain ⟨L6, L7, L8, L9, Q0, Q1⟩ := zq3 E0; obtain ⟨Q2, Q3, Q4, Q5, Q6, Q7, Q8, Q9⟩ := zq4 E2))
  refine bodyPost_ret (results_cell_row rfl _ _ E3 37 #[.int .i64 0, .int .i64 0, .int .i64 0, .int .i64 0] (0, 0) _ rfl (by exact zp E2 rfl) Try.underlying37 rfl (by kernel_rfl)) rfl ?_
  exact ⟨by first | rfl | (simp [errW_none, errW_some] <;> rfl) | (simp [*, errW_none, errW_some] <;> rfl), by exact zbo HB E4⟩
 rw [if_neg c21] at H
 have V0 : decide (a0_1 ≤ a2) = false := decide_eq_false c21
 clear c21
 obtain ⟨E1, G1⟩ : ∃ j_ : Int, (wrap64 ((wrap64 (a2 * a0_0)) + a1)) = j_ := ⟨_, rfl⟩
 replace H : (if 0 ≤ (E1) then (if (E1) < (l0_2.length : Int) then (some ((rd_T37 l0_2 (E1)).f0, (rd_T37 l0_2 (E1)).f1, (rd_T37 l0_2 (E1)).f2, (rd_T37 l0_2 (E1)).f3)) else (none)) else (none)) = some (r1, r2, r3, r4) := by first | (rw [G1] at H; exact H) | (simp only [G1] at H ⊢; exact H)
 have E0a : (IntKind.i64.wrap ((wrap64 (a2 * a0_0)) + a1)) = E1 := (i64_w _).trans G1
 by_cases c28 : 0 ≤ (E1)
 ·rw [if_pos c28] at H
  have E0b : decide (0 ≤ (E1)) = true := decide_eq_true c28
  clear c28
  by_cases c29 : (E1) < (l0_2.length : Int)
  ·rw [if_pos c29] at H
   have E0c : decide ((E1) < (l0_2.length : Int)) = true := decide_eq_true c29
   clear c29
   simp only [Option.some.injEq, Prod.mk.injEq] at H
   obtain ⟨rfl, rfl, rfl, rfl⟩ := H
   go_enter Try.func32, Try.ntmps32
   go_wp2_with (first | ((with_reducible refine gate_dst (N := 3) rfl ?_); refine box_event ?hg (N := 3) ?hd (cs := #[.int .i64 a0_0, .int .i64 a0_1, .slice A0_2 l0_2.length c0_2]) (t := 24) ?hr ?_; (case hd => rfl); (case hg => rfl); (case hr => first | (go_simp; done) | (go_simp; rfl)); intro E7 hg w30 hbox hb; have E8 := zg HB hg; have E9 := zg HB hg; have n0_ := Aside0.mk (hbox); replace HB := zb HB hb; have E0 := n0_; clear n0_; clear hb hbox hg) | ((with_reducible refine gate_dst (N := 6) rfl ?_); refine box_event ?hg (N := 6) ?hd (cs := #[.int .i64 0, .int .i64 0, .int .i64 0, .int .i64 0]) (t := 37) ?hr ?_; (case hd => rfl); (case hg => rfl); (case hr => first | (go_simp; done) | (go_simp; rfl)); intro E3 hg w31 hbox hb; have G0 := zg HB hg; have E4 := zg HB hg; have E5 := zn E0 hg; have E6 := zn' E0 hg; have n0_ := Aside0.mk (hbox); replace E0 := zk E0 hb; replace HB := zb HB hb; have E2 := n0_; clear n0_; clear hb hbox hg; have E0d := E5.out; have E0e := E6.out; obtain ⟨E0f, E0g, E0h, E0i, E0j, E0k⟩ := zq3 E0; have p431 : 0 ≤ ((E1) : Int) := of_decide_eq_true (by first | (with_reducible assumption) | assumption); have q431 : (E1) < (l0_2.length : Int) := of_decide_eq_true (by first | (with_reducible assumption) | assumption); obtain ⟨E0l, e431, G2, G3, G4, G5⟩ := at_T37 G6.out (E1) p431 q431; cases e431; replace G2 := (HB.out.cell (World.block_lt_of_cell? w _ G2)).trans G2; replace G3 := (HB.out.cell (World.block_lt_of_cell? w _ G3)).trans G3; replace G4 := (HB.out.cell (World.block_lt_of_cell? w _ G4)).trans G4; replace G5 := (HB.out.cell (World.block_lt_of_cell? w _ G5)).trans G5; replace p431 := eq_true p431; replace q431 := eq_true q431; obtain ⟨E0m, E0n, E0o, E0p, E0q, E0r, E0s, E0t⟩ := zq4 E2))
   refine bodyPost_ret (results_cell_row rfl _ _ E3 37 #[.int .i64 ((rd_T37 l0_2 (E1)).f0), .int .i64 ((rd_T37 l0_2 (E1)).f1), .int .i64 ((rd_T37 l0_2 (E1)).f2), .int .i64 ((rd_T37 l0_2 (E1)).f3)] (0, 0) _ rfl (by exact zp E2 rfl) Try.underlying37 rfl (by kernel_rfl)) rfl ?_
   exact ⟨by first | rfl | (simp [errW_none, errW_some] <;> rfl) | (simp only [← G1]; first | rfl | (simp [errW_none, errW_some] <;> rfl)) | (simp [*, errW_none, errW_some] <;> rfl), by exact zbo HB E4⟩
  rw [if_neg c29] at H
  exact absurd H (by simp)
 rw [if_neg c28] at H
 exact absurd H (by simp)

end Go.Proofs.Ytapdifpmijgkcaa.G
