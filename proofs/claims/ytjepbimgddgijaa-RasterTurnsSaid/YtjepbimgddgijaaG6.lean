/- Contracts of functions of the program, each as it is called: what it computes (.f), that it computes no less with more rounds (.mono), and that a call returns just that (.calls). No conditions but those that each contract names. Written by a program of this session (wip/gx.py over the kit's print). -/
import Derived.Test.YtjepbimgddgijaaG0
import Derived.Test.YtjepbimgddgijaaG1
import Derived.Test.YtjepbimgddgijaaG4
namespace Go.Proofs.Ytjepbimgddgijaa.G
open Go.RowKit Go.Proofs.YtjepbimgddgijaaW.PrintWords Go.Proofs.YtjepbimgddgijaaW.PrintLast Go.Proofs.YtjepbimgddgijaaW.PrintMore
attribute [local go_sem] max2_int min2_int max_two min_two max_three min_three max_four min_four   -- for this text's walks alone
set_option linter.unusedVariables false
set_option linter.unusedSimpArgs false


/-! ### raster_Put_1: function 50 -/
def raster_Put_1.f (a0 : Int) (a1 : Int) (a2_0 : Int) (a3_0 : Int) (a4_0 : Int) (a4_1 : Int) (l4_2 : List (S26)) (a5_0 : Int) (a5_1 : Int) (l5_2 : List (S26)) : Option (Int × Int × Int × Int) := if (wrap64 (a0 - a2_0)) ≥ 0 then (if (wrap64 (a0 - a2_0)) < a4_0 then (if (wrap64 (a1 - a3_0)) ≥ 0 then (if (wrap64 (a1 - a3_0)) < a4_1 then (if 0 ≤ (wrap64 ((wrap64 ((wrap64 (a1 - a3_0)) * a4_0)) + (wrap64 (a0 - a2_0)))) then (if (wrap64 ((wrap64 ((wrap64 (a1 - a3_0)) * a4_0)) + (wrap64 (a0 - a2_0)))) < (l4_2.length : Int) then (some ((rd_T26 l4_2 (wrap64 ((wrap64 ((wrap64 (a1 - a3_0)) * a4_0)) + (wrap64 (a0 - a2_0))))).f0, (rd_T26 l4_2 (wrap64 ((wrap64 ((wrap64 (a1 - a3_0)) * a4_0)) + (wrap64 (a0 - a2_0))))).f1, (rd_T26 l4_2 (wrap64 ((wrap64 ((wrap64 (a1 - a3_0)) * a4_0)) + (wrap64 (a0 - a2_0))))).f2, (rd_T26 l4_2 (wrap64 ((wrap64 ((wrap64 (a1 - a3_0)) * a4_0)) + (wrap64 (a0 - a2_0))))).f3)) else (none)) else (none)) else ((raster_get.f a5_0 a5_1 l5_2 a0 a1).bind fun bt236 => (some (bt236.1, bt236.2.1, bt236.2.2.1, bt236.2.2.2)))) else ((raster_get.f a5_0 a5_1 l5_2 a0 a1).bind fun bt240 => (some (bt240.1, bt240.2.1, bt240.2.2.1, bt240.2.2.2)))) else ((raster_get.f a5_0 a5_1 l5_2 a0 a1).bind fun bt244 => (some (bt244.1, bt244.2.1, bt244.2.2.1, bt244.2.2.2)))) else ((raster_get.f a5_0 a5_1 l5_2 a0 a1).bind fun bt248 => (some (bt248.1, bt248.2.1, bt248.2.2.1, bt248.2.2.2)))
set_option maxHeartbeats 8000000 in
set_option maxRecDepth 100000 in
theorem raster_Put_1.calls (a0 : Int) (a1 : Int) (gc2_0 : Nat) (a2_0 : Int) (gc3_0 : Nat) (a3_0 : Int) (gc4_0 : Nat) (a4_0 : Int) (a4_1 : Int) (A4_2 : Option Addr) (c4_2 : Nat) (l4_2 : List (S26)) (gc5_0 : Nat) (a5_0 : Int) (a5_1 : Int) (A5_2 : Option Addr) (c5_2 : Nat) (l5_2 : List (S26)) (r1 : Int) (r2 : Int) (r3 : Int) (r4 : Int) (w : World) (hp2_0 : w.heap[gc2_0]? = some (.cells #[.int .i64 a2_0] 3 (0, 0))) (hp3_0 : w.heap[gc3_0]? = some (.cells #[.int .i64 a3_0] 3 (0, 0))) (hp4_0 : w.heap[gc4_0]? = some (.cells #[.int .i64 a4_0, .int .i64 a4_1, .slice A4_2 l4_2.length c4_2] 24 (0, 0))) (hr4_2 : Kd.C k26 w A4_2 l4_2.length l4_2) (hc4_2 : l4_2.length ≤ c4_2) (hp5_0 : w.heap[gc5_0]? = some (.cells #[.int .i64 a5_0, .int .i64 a5_1, .slice A5_2 l5_2.length c5_2] 24 (0, 0))) (hr5_2 : Kd.C k26 w A5_2 l5_2.length l5_2) (hc5_2 : l5_2.length ≤ c5_2) (h : raster_Put_1.f a0 a1 a2_0 a3_0 a4_0 a4_1 l4_2 a5_0 a5_1 l5_2 = some (r1, r2, r3, r4)) :
  Calls Try.prog 50 #[.int .i64 a0, .int .i64 a1, .pointer (some ⟨gc2_0, 0, none⟩), .pointer (some ⟨gc3_0, 0, none⟩), .pointer (some ⟨gc4_0, 0, none⟩), .pointer (some ⟨gc5_0, 0, none⟩)] w fun e w' => e = .returned (.agg #[.int .i64 r1, .int .i64 r2, .int .i64 r3, .int .i64 r4]) ∧ Below w.heap.size w w' := by
 have hu26 := Try.underlying26
 have hu24 := Try.underlying24
 have HR4_2 := Aside0.mk hr4_2
 have HC4_2 := Aside0.mk hc4_2
 clear hr4_2 hc4_2
 have HR5_2 := Aside0.mk hr5_2
 have HC5_2 := Aside0.mk hc5_2
 clear hr5_2 hc5_2
 have BK230 := Aside0.mk hp2_0
 have GL230 := Aside0.mk (show gc2_0 < w.heap.size from blk_lt hp2_0)
 clear hp2_0
 have BK231 := Aside0.mk hp3_0
 have GL231 := Aside0.mk (show gc3_0 < w.heap.size from blk_lt hp3_0)
 clear hp3_0
 have BK232 := Aside0.mk hp4_0
 have GL232 := Aside0.mk (show gc4_0 < w.heap.size from blk_lt hp4_0)
 clear hp4_0
 have BK233 := Aside0.mk hp5_0
 have GL233 := Aside0.mk (show gc5_0 < w.heap.size from blk_lt hp5_0)
 clear hp5_0
 have HB := Aside0.mk (Below.refl w.heap.size w)
 have H : (if (wrap64 (a0 - a2_0)) ≥ 0 then (if (wrap64 (a0 - a2_0)) < a4_0 then (if (wrap64 (a1 - a3_0)) ≥ 0 then (if (wrap64 (a1 - a3_0)) < a4_1 then (if 0 ≤ (wrap64 ((wrap64 ((wrap64 (a1 - a3_0)) * a4_0)) + (wrap64 (a0 - a2_0)))) then (if (wrap64 ((wrap64 ((wrap64 (a1 - a3_0)) * a4_0)) + (wrap64 (a0 - a2_0)))) < (l4_2.length : Int) then (some ((rd_T26 l4_2 (wrap64 ((wrap64 ((wrap64 (a1 - a3_0)) * a4_0)) + (wrap64 (a0 - a2_0))))).f0, (rd_T26 l4_2 (wrap64 ((wrap64 ((wrap64 (a1 - a3_0)) * a4_0)) + (wrap64 (a0 - a2_0))))).f1, (rd_T26 l4_2 (wrap64 ((wrap64 ((wrap64 (a1 - a3_0)) * a4_0)) + (wrap64 (a0 - a2_0))))).f2, (rd_T26 l4_2 (wrap64 ((wrap64 ((wrap64 (a1 - a3_0)) * a4_0)) + (wrap64 (a0 - a2_0))))).f3)) else (none)) else (none)) else ((raster_get.f a5_0 a5_1 l5_2 a0 a1).bind fun bt236 => (some (bt236.1, bt236.2.1, bt236.2.2.1, bt236.2.2.2)))) else ((raster_get.f a5_0 a5_1 l5_2 a0 a1).bind fun bt240 => (some (bt240.1, bt240.2.1, bt240.2.2.1, bt240.2.2.2)))) else ((raster_get.f a5_0 a5_1 l5_2 a0 a1).bind fun bt244 => (some (bt244.1, bt244.2.1, bt244.2.2.1, bt244.2.2.2)))) else ((raster_get.f a5_0 a5_1 l5_2 a0 a1).bind fun bt248 => (some (bt248.1, bt248.2.1, bt248.2.2.1, bt248.2.2.2)))) = some (r1, r2, r3, r4) := h
 clear h
 by_cases c7 : (wrap64 (a0 - a2_0)) ≥ 0
 ·rw [if_pos c7] at H
  have c7b0 : decide (0 ≤ (wrap64 (a0 - a2_0))) = true := decide_eq_true c7
  clear c7
  by_cases c8 : (wrap64 (a0 - a2_0)) < a4_0
  ·rw [if_pos c8] at H
   have c8b0 : decide ((wrap64 (a0 - a2_0)) < a4_0) = true := decide_eq_true c8
   clear c8
   by_cases c9 : (wrap64 (a1 - a3_0)) ≥ 0
   ·rw [if_pos c9] at H
    have c9b0 : decide (0 ≤ (wrap64 (a1 - a3_0))) = true := decide_eq_true c9
    clear c9
    by_cases c10 : (wrap64 (a1 - a3_0)) < a4_1
    ·rw [if_pos c10] at H
     have c10b0 : decide ((wrap64 (a1 - a3_0)) < a4_1) = true := decide_eq_true c10
     clear c10
     obtain ⟨ji11, hji11⟩ : ∃ j_ : Int, (wrap64 ((wrap64 ((wrap64 (a1 - a3_0)) * a4_0)) + (wrap64 (a0 - a2_0)))) = j_ := ⟨_, rfl⟩
     replace H : (if 0 ≤ (ji11) then (if (ji11) < (l4_2.length : Int) then (some ((rd_T26 l4_2 (ji11)).f0, (rd_T26 l4_2 (ji11)).f1, (rd_T26 l4_2 (ji11)).f2, (rd_T26 l4_2 (ji11)).f3)) else (none)) else (none)) = some (r1, r2, r3, r4) := by first | (rw [hji11] at H; exact H) | (simp only [hji11] at H ⊢; exact H)
     have hji11w : (IntKind.i64.wrap ((wrap64 ((wrap64 (a1 - a3_0)) * a4_0)) + (wrap64 (a0 - a2_0)))) = ji11 := (i64_w _).trans hji11
     by_cases c12 : 0 ≤ (ji11)
     ·rw [if_pos c12] at H
      have c12b0 : decide (0 ≤ (ji11)) = true := decide_eq_true c12
      clear c12
      by_cases c13 : (ji11) < (l4_2.length : Int)
      ·rw [if_pos c13] at H
       have c13b0 : decide ((ji11) < (l4_2.length : Int)) = true := decide_eq_true c13
       clear c13
       simp only [Option.some.injEq, Prod.mk.injEq] at H
       obtain ⟨rfl, rfl, rfl, rfl⟩ := H
       go_enter Try.func50, Try.ntmps50
       go_wp2_with (first | ((with_reducible refine gate_dst (N := 8) rfl ?_); refine box_event ?hg (N := 8) ?hd (cs := #[.int .i64 0, .int .i64 0, .int .i64 0, .int .i64 0]) (t := 26) ?hr ?_; (case hd => rfl); (case hg => rfl); (case hr => first | (go_simp; done) | (go_simp; rfl)); intro gb234 hg w14 hbox hb; have GW234 := zg HB hg; have GE234 := zg HB hg; have NB230_234 := zn BK230 hg; have NB234_230 := zn' BK230 hg; have NB231_234 := zn BK231 hg; have NB234_231 := zn' BK231 hg; have NB232_234 := zn BK232 hg; have NB234_232 := zn' BK232 hg; have NB233_234 := zn BK233 hg; have NB234_233 := zn' BK233 hg; have n0_ := Aside0.mk (hbox); replace BK230 := zk BK230 hb; replace BK231 := zk BK231 hb; replace BK232 := zk BK232 hb; replace BK233 := zk BK233 hb; replace HB := zb HB hb; have BK234 := n0_; clear n0_; clear hb hbox hg; have hnb15 := NB230_234.out; have hnc15 := NB234_230.out; obtain ⟨hcz16_0, hfz16_0⟩ := zq1 BK230; have hnb17 := NB231_234.out; have hnc17 := NB234_231.out; obtain ⟨hcz18_0, hfz18_0⟩ := zq1 BK231; have hnb19 := NB232_234.out; have hnc19 := NB234_232.out; obtain ⟨hcz20_0, hcz20_1, hcz20_2, hfz20_0, hfz20_1, hfz20_2⟩ := zq3 BK232; have p235 : 0 ≤ ((ji11) : Int) := of_decide_eq_true (by first | (with_reducible assumption) | assumption); have q235 : (ji11) < (l4_2.length : Int) := of_decide_eq_true (by first | (with_reducible assumption) | assumption); obtain ⟨ad235, e235, hx235_0, hx235_1, hx235_2, hx235_3⟩ := at_T26 HR4_2.out (ji11) p235 q235; cases e235; replace hx235_0 := (HB.out.cell (World.block_lt_of_cell? w _ hx235_0)).trans hx235_0; replace hx235_1 := (HB.out.cell (World.block_lt_of_cell? w _ hx235_1)).trans hx235_1; replace hx235_2 := (HB.out.cell (World.block_lt_of_cell? w _ hx235_2)).trans hx235_2; replace hx235_3 := (HB.out.cell (World.block_lt_of_cell? w _ hx235_3)).trans hx235_3; replace p235 := eq_true p235; replace q235 := eq_true q235; have hnb21 := NB234_233.out; have hnc21 := NB233_234.out; obtain ⟨hcz22_0, hcz22_1, hcz22_2, hcz22_3, hfz22_0, hfz22_1, hfz22_2, hfz22_3⟩ := zq4 BK234))
       repeat (go_quiet (first | ((with_reducible refine gate_dst (N := 8) rfl ?_); refine box_event ?hg (N := 8) ?hd (cs := #[.int .i64 0, .int .i64 0, .int .i64 0, .int .i64 0]) (t := 26) ?hr ?_; (case hd => rfl); (case hg => rfl); (case hr => first | (go_simp; done) | (go_simp; rfl)); intro gb234 hg w14 hbox hb; have GW234 := zg HB hg; have GE234 := zg HB hg; have NB230_234 := zn BK230 hg; have NB234_230 := zn' BK230 hg; have NB231_234 := zn BK231 hg; have NB234_231 := zn' BK231 hg; have NB232_234 := zn BK232 hg; have NB234_232 := zn' BK232 hg; have NB233_234 := zn BK233 hg; have NB234_233 := zn' BK233 hg; have n0_ := Aside0.mk (hbox); replace BK230 := zk BK230 hb; replace BK231 := zk BK231 hb; replace BK232 := zk BK232 hb; replace BK233 := zk BK233 hb; replace HB := zb HB hb; have BK234 := n0_; clear n0_; clear hb hbox hg; have hnb15 := NB230_234.out; have hnc15 := NB234_230.out; obtain ⟨hcz16_0, hfz16_0⟩ := zq1 BK230; have hnb17 := NB231_234.out; have hnc17 := NB234_231.out; obtain ⟨hcz18_0, hfz18_0⟩ := zq1 BK231; have hnb19 := NB232_234.out; have hnc19 := NB234_232.out; obtain ⟨hcz20_0, hcz20_1, hcz20_2, hfz20_0, hfz20_1, hfz20_2⟩ := zq3 BK232; have p235 : 0 ≤ ((ji11) : Int) := of_decide_eq_true (by first | (with_reducible assumption) | assumption); have q235 : (ji11) < (l4_2.length : Int) := of_decide_eq_true (by first | (with_reducible assumption) | assumption); obtain ⟨ad235, e235, hx235_0, hx235_1, hx235_2, hx235_3⟩ := at_T26 HR4_2.out (ji11) p235 q235; cases e235; replace hx235_0 := (HB.out.cell (World.block_lt_of_cell? w _ hx235_0)).trans hx235_0; replace hx235_1 := (HB.out.cell (World.block_lt_of_cell? w _ hx235_1)).trans hx235_1; replace hx235_2 := (HB.out.cell (World.block_lt_of_cell? w _ hx235_2)).trans hx235_2; replace hx235_3 := (HB.out.cell (World.block_lt_of_cell? w _ hx235_3)).trans hx235_3; replace p235 := eq_true p235; replace q235 := eq_true q235; have hnb21 := NB234_233.out; have hnc21 := NB233_234.out; obtain ⟨hcz22_0, hcz22_1, hcz22_2, hcz22_3, hfz22_0, hfz22_1, hfz22_2, hfz22_3⟩ := zq4 BK234)); try go_wp2_with (first | ((with_reducible refine gate_dst (N := 8) rfl ?_); refine box_event ?hg (N := 8) ?hd (cs := #[.int .i64 0, .int .i64 0, .int .i64 0, .int .i64 0]) (t := 26) ?hr ?_; (case hd => rfl); (case hg => rfl); (case hr => first | (go_simp; done) | (go_simp; rfl)); intro gb234 hg w14 hbox hb; have GW234 := zg HB hg; have GE234 := zg HB hg; have NB230_234 := zn BK230 hg; have NB234_230 := zn' BK230 hg; have NB231_234 := zn BK231 hg; have NB234_231 := zn' BK231 hg; have NB232_234 := zn BK232 hg; have NB234_232 := zn' BK232 hg; have NB233_234 := zn BK233 hg; have NB234_233 := zn' BK233 hg; have n0_ := Aside0.mk (hbox); replace BK230 := zk BK230 hb; replace BK231 := zk BK231 hb; replace BK232 := zk BK232 hb; replace BK233 := zk BK233 hb; replace HB := zb HB hb; have BK234 := n0_; clear n0_; clear hb hbox hg; have hnb15 := NB230_234.out; have hnc15 := NB234_230.out; obtain ⟨hcz16_0, hfz16_0⟩ := zq1 BK230; have hnb17 := NB231_234.out; have hnc17 := NB234_231.out; obtain ⟨hcz18_0, hfz18_0⟩ := zq1 BK231; have hnb19 := NB232_234.out; have hnc19 := NB234_232.out; obtain ⟨hcz20_0, hcz20_1, hcz20_2, hfz20_0, hfz20_1, hfz20_2⟩ := zq3 BK232; have p235 : 0 ≤ ((ji11) : Int) := of_decide_eq_true (by first | (with_reducible assumption) | assumption); have q235 : (ji11) < (l4_2.length : Int) := of_decide_eq_true (by first | (with_reducible assumption) | assumption); obtain ⟨ad235, e235, hx235_0, hx235_1, hx235_2, hx235_3⟩ := at_T26 HR4_2.out (ji11) p235 q235; cases e235; replace hx235_0 := (HB.out.cell (World.block_lt_of_cell? w _ hx235_0)).trans hx235_0; replace hx235_1 := (HB.out.cell (World.block_lt_of_cell? w _ hx235_1)).trans hx235_1; replace hx235_2 := (HB.out.cell (World.block_lt_of_cell? w _ hx235_2)).trans hx235_2; replace hx235_3 := (HB.out.cell (World.block_lt_of_cell? w _ hx235_3)).trans hx235_3; replace p235 := eq_true p235; replace q235 := eq_true q235; have hnb21 := NB234_233.out; have hnc21 := NB233_234.out; obtain ⟨hcz22_0, hcz22_1, hcz22_2, hcz22_3, hfz22_0, hfz22_1, hfz22_2, hfz22_3⟩ := zq4 BK234)))
       refine bodyPost_ret (results_cell_row rfl _ _ gb234 26 #[.int .i64 ((rd_T26 l4_2 (ji11)).f0), .int .i64 ((rd_T26 l4_2 (ji11)).f1), .int .i64 ((rd_T26 l4_2 (ji11)).f2), .int .i64 ((rd_T26 l4_2 (ji11)).f3)] (0, 0) _ rfl (by exact zp BK234 rfl) Try.underlying26 rfl (by kernel_rfl)) rfl ?_
       exact ⟨by first | rfl | (simp [errW_none, errW_some] <;> rfl) | (simp only [← hji11]; first | rfl | (simp [errW_none, errW_some] <;> rfl)) | (simp [*, errW_none, errW_some] <;> rfl), by exact zbo HB GE234⟩
      ·rw [if_neg c13] at H
       exact absurd H (by simp)
     ·rw [if_neg c12] at H
      exact absurd H (by simp)
    ·rw [if_neg c10] at H
     have c10b0 : decide ((wrap64 (a1 - a3_0)) < a4_1) = false := decide_eq_false c10
     clear c10
     replace H := Option.bind_eq_some_iff.mp H
     obtain ⟨⟨t236, t237, t238, t239⟩, A230, H⟩ := H
     replace H : (some (t236, t237, t238, t239)) = some (r1, r2, r3, r4) := H
     have A23 := Aside0.mk A230
     clear A230
     simp only [Option.some.injEq, Prod.mk.injEq] at H
     obtain ⟨rfl, rfl, rfl, rfl⟩ := H
     go_enter Try.func50, Try.ntmps50
     go_wp2_with (first | ((with_reducible refine gate_dst (N := 8) rfl ?_); refine box_event ?hg (N := 8) ?hd (cs := #[.int .i64 0, .int .i64 0, .int .i64 0, .int .i64 0]) (t := 26) ?hr ?_; (case hd => rfl); (case hg => rfl); (case hr => first | (go_simp; done) | (go_simp; rfl)); intro gb234 hg w24 hbox hb; have GW234 := zg HB hg; have GE234 := zg HB hg; have NB230_234 := zn BK230 hg; have NB234_230 := zn' BK230 hg; have NB231_234 := zn BK231 hg; have NB234_231 := zn' BK231 hg; have NB232_234 := zn BK232 hg; have NB234_232 := zn' BK232 hg; have NB233_234 := zn BK233 hg; have NB234_233 := zn' BK233 hg; have n0_ := Aside0.mk (hbox); replace BK230 := zk BK230 hb; replace BK231 := zk BK231 hb; replace BK232 := zk BK232 hb; replace BK233 := zk BK233 hb; replace HB := zb HB hb; have BK234 := n0_; clear n0_; clear hb hbox hg; have hnb25 := NB230_234.out; have hnc25 := NB234_230.out; obtain ⟨hcz26_0, hfz26_0⟩ := zq1 BK230; have hnb27 := NB231_234.out; have hnc27 := NB234_231.out; obtain ⟨hcz28_0, hfz28_0⟩ := zq1 BK231; have hnb29 := NB232_234.out; have hnc29 := NB234_232.out; obtain ⟨hcz30_0, hcz30_1, hcz30_2, hfz30_0, hfz30_1, hfz30_2⟩ := zq3 BK232; have hnb31 := NB233_234.out; have hnc31 := NB234_233.out; obtain ⟨hcz32_0, hcz32_1, hcz32_2, hfz32_0, hfz32_1, hfz32_2⟩ := zq3 BK233) | (go_at_call 43; (with_reducible refine (raster_get.calls a5_0 a5_1 _ _ l5_2 a0 a1 t236 t237 t238 t239 _ ?side1 ?side2 A23.out).mono ?_); (case side1 => repeat (first | exact (Kd.C_below HR5_2.out HB.out) | (with_reducible refine Kd.C_alloc ?_ _) | (with_reducible refine Kd.C_drewN ?_ _) | (with_reducible refine Kd.C_drew ?_))); (case side2 => exact HC5_2.out); rintro e w33 ⟨rfl, hb⟩; replace BK230 := zk BK230 hb; replace BK231 := zk BK231 hb; replace BK232 := zk BK232 hb; replace BK233 := zk BK233 hb; replace BK234 := zk BK234 hb; replace HB := zb HB hb; (try clear hb); (try clear hb2); (try clear hk); (try clear hi); obtain ⟨hcz34_0, hcz34_1, hcz34_2, hcz34_3, hfz34_0, hfz34_1, hfz34_2, hfz34_3⟩ := zq4 BK234))
     repeat (go_quiet (first | ((with_reducible refine gate_dst (N := 8) rfl ?_); refine box_event ?hg (N := 8) ?hd (cs := #[.int .i64 0, .int .i64 0, .int .i64 0, .int .i64 0]) (t := 26) ?hr ?_; (case hd => rfl); (case hg => rfl); (case hr => first | (go_simp; done) | (go_simp; rfl)); intro gb234 hg w24 hbox hb; have GW234 := zg HB hg; have GE234 := zg HB hg; have NB230_234 := zn BK230 hg; have NB234_230 := zn' BK230 hg; have NB231_234 := zn BK231 hg; have NB234_231 := zn' BK231 hg; have NB232_234 := zn BK232 hg; have NB234_232 := zn' BK232 hg; have NB233_234 := zn BK233 hg; have NB234_233 := zn' BK233 hg; have n0_ := Aside0.mk (hbox); replace BK230 := zk BK230 hb; replace BK231 := zk BK231 hb; replace BK232 := zk BK232 hb; replace BK233 := zk BK233 hb; replace HB := zb HB hb; have BK234 := n0_; clear n0_; clear hb hbox hg; have hnb25 := NB230_234.out; have hnc25 := NB234_230.out; obtain ⟨hcz26_0, hfz26_0⟩ := zq1 BK230; have hnb27 := NB231_234.out; have hnc27 := NB234_231.out; obtain ⟨hcz28_0, hfz28_0⟩ := zq1 BK231; have hnb29 := NB232_234.out; have hnc29 := NB234_232.out; obtain ⟨hcz30_0, hcz30_1, hcz30_2, hfz30_0, hfz30_1, hfz30_2⟩ := zq3 BK232; have hnb31 := NB233_234.out; have hnc31 := NB234_233.out; obtain ⟨hcz32_0, hcz32_1, hcz32_2, hfz32_0, hfz32_1, hfz32_2⟩ := zq3 BK233) | (go_at_call 43; (with_reducible refine (raster_get.calls a5_0 a5_1 _ _ l5_2 a0 a1 t236 t237 t238 t239 _ ?side1 ?side2 A23.out).mono ?_); (case side1 => repeat (first | exact (Kd.C_below HR5_2.out HB.out) | (with_reducible refine Kd.C_alloc ?_ _) | (with_reducible refine Kd.C_drewN ?_ _) | (with_reducible refine Kd.C_drew ?_))); (case side2 => exact HC5_2.out); rintro e w33 ⟨rfl, hb⟩; replace BK230 := zk BK230 hb; replace BK231 := zk BK231 hb; replace BK232 := zk BK232 hb; replace BK233 := zk BK233 hb; replace BK234 := zk BK234 hb; replace HB := zb HB hb; (try clear hb); (try clear hb2); (try clear hk); (try clear hi); obtain ⟨hcz34_0, hcz34_1, hcz34_2, hcz34_3, hfz34_0, hfz34_1, hfz34_2, hfz34_3⟩ := zq4 BK234)); try go_wp2_with (first | ((with_reducible refine gate_dst (N := 8) rfl ?_); refine box_event ?hg (N := 8) ?hd (cs := #[.int .i64 0, .int .i64 0, .int .i64 0, .int .i64 0]) (t := 26) ?hr ?_; (case hd => rfl); (case hg => rfl); (case hr => first | (go_simp; done) | (go_simp; rfl)); intro gb234 hg w24 hbox hb; have GW234 := zg HB hg; have GE234 := zg HB hg; have NB230_234 := zn BK230 hg; have NB234_230 := zn' BK230 hg; have NB231_234 := zn BK231 hg; have NB234_231 := zn' BK231 hg; have NB232_234 := zn BK232 hg; have NB234_232 := zn' BK232 hg; have NB233_234 := zn BK233 hg; have NB234_233 := zn' BK233 hg; have n0_ := Aside0.mk (hbox); replace BK230 := zk BK230 hb; replace BK231 := zk BK231 hb; replace BK232 := zk BK232 hb; replace BK233 := zk BK233 hb; replace HB := zb HB hb; have BK234 := n0_; clear n0_; clear hb hbox hg; have hnb25 := NB230_234.out; have hnc25 := NB234_230.out; obtain ⟨hcz26_0, hfz26_0⟩ := zq1 BK230; have hnb27 := NB231_234.out; have hnc27 := NB234_231.out; obtain ⟨hcz28_0, hfz28_0⟩ := zq1 BK231; have hnb29 := NB232_234.out; have hnc29 := NB234_232.out; obtain ⟨hcz30_0, hcz30_1, hcz30_2, hfz30_0, hfz30_1, hfz30_2⟩ := zq3 BK232; have hnb31 := NB233_234.out; have hnc31 := NB234_233.out; obtain ⟨hcz32_0, hcz32_1, hcz32_2, hfz32_0, hfz32_1, hfz32_2⟩ := zq3 BK233) | (go_at_call 43; (with_reducible refine (raster_get.calls a5_0 a5_1 _ _ l5_2 a0 a1 t236 t237 t238 t239 _ ?side1 ?side2 A23.out).mono ?_); (case side1 => repeat (first | exact (Kd.C_below HR5_2.out HB.out) | (with_reducible refine Kd.C_alloc ?_ _) | (with_reducible refine Kd.C_drewN ?_ _) | (with_reducible refine Kd.C_drew ?_))); (case side2 => exact HC5_2.out); rintro e w33 ⟨rfl, hb⟩; replace BK230 := zk BK230 hb; replace BK231 := zk BK231 hb; replace BK232 := zk BK232 hb; replace BK233 := zk BK233 hb; replace BK234 := zk BK234 hb; replace HB := zb HB hb; (try clear hb); (try clear hb2); (try clear hk); (try clear hi); obtain ⟨hcz34_0, hcz34_1, hcz34_2, hcz34_3, hfz34_0, hfz34_1, hfz34_2, hfz34_3⟩ := zq4 BK234)))
     refine bodyPost_ret (results_cell_row rfl _ _ gb234 26 #[.int .i64 t236, .int .i64 t237, .int .i64 t238, .int .i64 t239] (0, 0) _ rfl (by exact zp BK234 rfl) Try.underlying26 rfl (by kernel_rfl)) rfl ?_
     exact ⟨by first | rfl | (simp [errW_none, errW_some] <;> rfl) | (simp [*, errW_none, errW_some] <;> rfl), by exact zbo HB GE234⟩
   ·rw [if_neg c9] at H
    have c9b0 : decide (0 ≤ (wrap64 (a1 - a3_0))) = false := decide_eq_false c9
    clear c9
    replace H := Option.bind_eq_some_iff.mp H
    obtain ⟨⟨t240, t241, t242, t243⟩, A350, H⟩ := H
    replace H : (some (t240, t241, t242, t243)) = some (r1, r2, r3, r4) := H
    have A35 := Aside0.mk A350
    clear A350
    simp only [Option.some.injEq, Prod.mk.injEq] at H
    obtain ⟨rfl, rfl, rfl, rfl⟩ := H
    go_enter Try.func50, Try.ntmps50
    go_wp2_with (first | ((with_reducible refine gate_dst (N := 8) rfl ?_); refine box_event ?hg (N := 8) ?hd (cs := #[.int .i64 0, .int .i64 0, .int .i64 0, .int .i64 0]) (t := 26) ?hr ?_; (case hd => rfl); (case hg => rfl); (case hr => first | (go_simp; done) | (go_simp; rfl)); intro gb234 hg w36 hbox hb; have GW234 := zg HB hg; have GE234 := zg HB hg; have NB230_234 := zn BK230 hg; have NB234_230 := zn' BK230 hg; have NB231_234 := zn BK231 hg; have NB234_231 := zn' BK231 hg; have NB232_234 := zn BK232 hg; have NB234_232 := zn' BK232 hg; have NB233_234 := zn BK233 hg; have NB234_233 := zn' BK233 hg; have n0_ := Aside0.mk (hbox); replace BK230 := zk BK230 hb; replace BK231 := zk BK231 hb; replace BK232 := zk BK232 hb; replace BK233 := zk BK233 hb; replace HB := zb HB hb; have BK234 := n0_; clear n0_; clear hb hbox hg; have hnb37 := NB230_234.out; have hnc37 := NB234_230.out; obtain ⟨hcz38_0, hfz38_0⟩ := zq1 BK230; have hnb39 := NB231_234.out; have hnc39 := NB234_231.out; obtain ⟨hcz40_0, hfz40_0⟩ := zq1 BK231; have hnb41 := NB232_234.out; have hnc41 := NB234_232.out; obtain ⟨hcz42_0, hcz42_1, hcz42_2, hfz42_0, hfz42_1, hfz42_2⟩ := zq3 BK232; have hnb43 := NB233_234.out; have hnc43 := NB234_233.out; obtain ⟨hcz44_0, hcz44_1, hcz44_2, hfz44_0, hfz44_1, hfz44_2⟩ := zq3 BK233) | (go_at_call 43; (with_reducible refine (raster_get.calls a5_0 a5_1 _ _ l5_2 a0 a1 t240 t241 t242 t243 _ ?side1 ?side2 A35.out).mono ?_); (case side1 => repeat (first | exact (Kd.C_below HR5_2.out HB.out) | (with_reducible refine Kd.C_alloc ?_ _) | (with_reducible refine Kd.C_drewN ?_ _) | (with_reducible refine Kd.C_drew ?_))); (case side2 => exact HC5_2.out); rintro e w45 ⟨rfl, hb⟩; replace BK230 := zk BK230 hb; replace BK231 := zk BK231 hb; replace BK232 := zk BK232 hb; replace BK233 := zk BK233 hb; replace BK234 := zk BK234 hb; replace HB := zb HB hb; (try clear hb); (try clear hb2); (try clear hk); (try clear hi); obtain ⟨hcz46_0, hcz46_1, hcz46_2, hcz46_3, hfz46_0, hfz46_1, hfz46_2, hfz46_3⟩ := zq4 BK234))
    repeat (go_quiet (first | ((with_reducible refine gate_dst (N := 8) rfl ?_); refine box_event ?hg (N := 8) ?hd (cs := #[.int .i64 0, .int .i64 0, .int .i64 0, .int .i64 0]) (t := 26) ?hr ?_; (case hd => rfl); (case hg => rfl); (case hr => first | (go_simp; done) | (go_simp; rfl)); intro gb234 hg w36 hbox hb; have GW234 := zg HB hg; have GE234 := zg HB hg; have NB230_234 := zn BK230 hg; have NB234_230 := zn' BK230 hg; have NB231_234 := zn BK231 hg; have NB234_231 := zn' BK231 hg; have NB232_234 := zn BK232 hg; have NB234_232 := zn' BK232 hg; have NB233_234 := zn BK233 hg; have NB234_233 := zn' BK233 hg; have n0_ := Aside0.mk (hbox); replace BK230 := zk BK230 hb; replace BK231 := zk BK231 hb; replace BK232 := zk BK232 hb; replace BK233 := zk BK233 hb; replace HB := zb HB hb; have BK234 := n0_; clear n0_; clear hb hbox hg; have hnb37 := NB230_234.out; have hnc37 := NB234_230.out; obtain ⟨hcz38_0, hfz38_0⟩ := zq1 BK230; have hnb39 := NB231_234.out; have hnc39 := NB234_231.out; obtain ⟨hcz40_0, hfz40_0⟩ := zq1 BK231; have hnb41 := NB232_234.out; have hnc41 := NB234_232.out; obtain ⟨hcz42_0, hcz42_1, hcz42_2, hfz42_0, hfz42_1, hfz42_2⟩ := zq3 BK232; have hnb43 := NB233_234.out; have hnc43 := NB234_233.out; obtain ⟨hcz44_0, hcz44_1, hcz44_2, hfz44_0, hfz44_1, hfz44_2⟩ := zq3 BK233) | (go_at_call 43; (with_reducible refine (raster_get.calls a5_0 a5_1 _ _ l5_2 a0 a1 t240 t241 t242 t243 _ ?side1 ?side2 A35.out).mono ?_); (case side1 => repeat (first | exact (Kd.C_below HR5_2.out HB.out) | (with_reducible refine Kd.C_alloc ?_ _) | (with_reducible refine Kd.C_drewN ?_ _) | (with_reducible refine Kd.C_drew ?_))); (case side2 => exact HC5_2.out); rintro e w45 ⟨rfl, hb⟩; replace BK230 := zk BK230 hb; replace BK231 := zk BK231 hb; replace BK232 := zk BK232 hb; replace BK233 := zk BK233 hb; replace BK234 := zk BK234 hb; replace HB := zb HB hb; (try clear hb); (try clear hb2); (try clear hk); (try clear hi); obtain ⟨hcz46_0, hcz46_1, hcz46_2, hcz46_3, hfz46_0, hfz46_1, hfz46_2, hfz46_3⟩ := zq4 BK234)); try go_wp2_with (first | ((with_reducible refine gate_dst (N := 8) rfl ?_); refine box_event ?hg (N := 8) ?hd (cs := #[.int .i64 0, .int .i64 0, .int .i64 0, .int .i64 0]) (t := 26) ?hr ?_; (case hd => rfl); (case hg => rfl); (case hr => first | (go_simp; done) | (go_simp; rfl)); intro gb234 hg w36 hbox hb; have GW234 := zg HB hg; have GE234 := zg HB hg; have NB230_234 := zn BK230 hg; have NB234_230 := zn' BK230 hg; have NB231_234 := zn BK231 hg; have NB234_231 := zn' BK231 hg; have NB232_234 := zn BK232 hg; have NB234_232 := zn' BK232 hg; have NB233_234 := zn BK233 hg; have NB234_233 := zn' BK233 hg; have n0_ := Aside0.mk (hbox); replace BK230 := zk BK230 hb; replace BK231 := zk BK231 hb; replace BK232 := zk BK232 hb; replace BK233 := zk BK233 hb; replace HB := zb HB hb; have BK234 := n0_; clear n0_; clear hb hbox hg; have hnb37 := NB230_234.out; have hnc37 := NB234_230.out; obtain ⟨hcz38_0, hfz38_0⟩ := zq1 BK230; have hnb39 := NB231_234.out; have hnc39 := NB234_231.out; obtain ⟨hcz40_0, hfz40_0⟩ := zq1 BK231; have hnb41 := NB232_234.out; have hnc41 := NB234_232.out; obtain ⟨hcz42_0, hcz42_1, hcz42_2, hfz42_0, hfz42_1, hfz42_2⟩ := zq3 BK232; have hnb43 := NB233_234.out; have hnc43 := NB234_233.out; obtain ⟨hcz44_0, hcz44_1, hcz44_2, hfz44_0, hfz44_1, hfz44_2⟩ := zq3 BK233) | (go_at_call 43; (with_reducible refine (raster_get.calls a5_0 a5_1 _ _ l5_2 a0 a1 t240 t241 t242 t243 _ ?side1 ?side2 A35.out).mono ?_); (case side1 => repeat (first | exact (Kd.C_below HR5_2.out HB.out) | (with_reducible refine Kd.C_alloc ?_ _) | (with_reducible refine Kd.C_drewN ?_ _) | (with_reducible refine Kd.C_drew ?_))); (case side2 => exact HC5_2.out); rintro e w45 ⟨rfl, hb⟩; replace BK230 := zk BK230 hb; replace BK231 := zk BK231 hb; replace BK232 := zk BK232 hb; replace BK233 := zk BK233 hb; replace BK234 := zk BK234 hb; replace HB := zb HB hb; (try clear hb); (try clear hb2); (try clear hk); (try clear hi); obtain ⟨hcz46_0, hcz46_1, hcz46_2, hcz46_3, hfz46_0, hfz46_1, hfz46_2, hfz46_3⟩ := zq4 BK234)))
    refine bodyPost_ret (results_cell_row rfl _ _ gb234 26 #[.int .i64 t240, .int .i64 t241, .int .i64 t242, .int .i64 t243] (0, 0) _ rfl (by exact zp BK234 rfl) Try.underlying26 rfl (by kernel_rfl)) rfl ?_
    exact ⟨by first | rfl | (simp [errW_none, errW_some] <;> rfl) | (simp [*, errW_none, errW_some] <;> rfl), by exact zbo HB GE234⟩
  ·rw [if_neg c8] at H
   have c8b0 : decide ((wrap64 (a0 - a2_0)) < a4_0) = false := decide_eq_false c8
   clear c8
   replace H := Option.bind_eq_some_iff.mp H
   obtain ⟨⟨t244, t245, t246, t247⟩, A470, H⟩ := H
   replace H : (some (t244, t245, t246, t247)) = some (r1, r2, r3, r4) := H
   have A47 := Aside0.mk A470
   clear A470
   simp only [Option.some.injEq, Prod.mk.injEq] at H
   obtain ⟨rfl, rfl, rfl, rfl⟩ := H
   go_enter Try.func50, Try.ntmps50
   go_wp2_with (first | ((with_reducible refine gate_dst (N := 8) rfl ?_); refine box_event ?hg (N := 8) ?hd (cs := #[.int .i64 0, .int .i64 0, .int .i64 0, .int .i64 0]) (t := 26) ?hr ?_; (case hd => rfl); (case hg => rfl); (case hr => first | (go_simp; done) | (go_simp; rfl)); intro gb234 hg w48 hbox hb; have GW234 := zg HB hg; have GE234 := zg HB hg; have NB230_234 := zn BK230 hg; have NB234_230 := zn' BK230 hg; have NB231_234 := zn BK231 hg; have NB234_231 := zn' BK231 hg; have NB232_234 := zn BK232 hg; have NB234_232 := zn' BK232 hg; have NB233_234 := zn BK233 hg; have NB234_233 := zn' BK233 hg; have n0_ := Aside0.mk (hbox); replace BK230 := zk BK230 hb; replace BK231 := zk BK231 hb; replace BK232 := zk BK232 hb; replace BK233 := zk BK233 hb; replace HB := zb HB hb; have BK234 := n0_; clear n0_; clear hb hbox hg; have hnb49 := NB230_234.out; have hnc49 := NB234_230.out; obtain ⟨hcz50_0, hfz50_0⟩ := zq1 BK230; have hnb51 := NB231_234.out; have hnc51 := NB234_231.out; obtain ⟨hcz52_0, hfz52_0⟩ := zq1 BK231; have hnb53 := NB232_234.out; have hnc53 := NB234_232.out; obtain ⟨hcz54_0, hcz54_1, hcz54_2, hfz54_0, hfz54_1, hfz54_2⟩ := zq3 BK232; have hnb55 := NB233_234.out; have hnc55 := NB234_233.out; obtain ⟨hcz56_0, hcz56_1, hcz56_2, hfz56_0, hfz56_1, hfz56_2⟩ := zq3 BK233) | (go_at_call 43; (with_reducible refine (raster_get.calls a5_0 a5_1 _ _ l5_2 a0 a1 t244 t245 t246 t247 _ ?side1 ?side2 A47.out).mono ?_); (case side1 => repeat (first | exact (Kd.C_below HR5_2.out HB.out) | (with_reducible refine Kd.C_alloc ?_ _) | (with_reducible refine Kd.C_drewN ?_ _) | (with_reducible refine Kd.C_drew ?_))); (case side2 => exact HC5_2.out); rintro e w57 ⟨rfl, hb⟩; replace BK230 := zk BK230 hb; replace BK231 := zk BK231 hb; replace BK232 := zk BK232 hb; replace BK233 := zk BK233 hb; replace BK234 := zk BK234 hb; replace HB := zb HB hb; (try clear hb); (try clear hb2); (try clear hk); (try clear hi); obtain ⟨hcz58_0, hcz58_1, hcz58_2, hcz58_3, hfz58_0, hfz58_1, hfz58_2, hfz58_3⟩ := zq4 BK234))
   repeat (go_quiet (first | ((with_reducible refine gate_dst (N := 8) rfl ?_); refine box_event ?hg (N := 8) ?hd (cs := #[.int .i64 0, .int .i64 0, .int .i64 0, .int .i64 0]) (t := 26) ?hr ?_; (case hd => rfl); (case hg => rfl); (case hr => first | (go_simp; done) | (go_simp; rfl)); intro gb234 hg w48 hbox hb; have GW234 := zg HB hg; have GE234 := zg HB hg; have NB230_234 := zn BK230 hg; have NB234_230 := zn' BK230 hg; have NB231_234 := zn BK231 hg; have NB234_231 := zn' BK231 hg; have NB232_234 := zn BK232 hg; have NB234_232 := zn' BK232 hg; have NB233_234 := zn BK233 hg; have NB234_233 := zn' BK233 hg; have n0_ := Aside0.mk (hbox); replace BK230 := zk BK230 hb; replace BK231 := zk BK231 hb; replace BK232 := zk BK232 hb; replace BK233 := zk BK233 hb; replace HB := zb HB hb; have BK234 := n0_; clear n0_; clear hb hbox hg; have hnb49 := NB230_234.out; have hnc49 := NB234_230.out; obtain ⟨hcz50_0, hfz50_0⟩ := zq1 BK230; have hnb51 := NB231_234.out; have hnc51 := NB234_231.out; obtain ⟨hcz52_0, hfz52_0⟩ := zq1 BK231; have hnb53 := NB232_234.out; have hnc53 := NB234_232.out; obtain ⟨hcz54_0, hcz54_1, hcz54_2, hfz54_0, hfz54_1, hfz54_2⟩ := zq3 BK232; have hnb55 := NB233_234.out; have hnc55 := NB234_233.out; obtain ⟨hcz56_0, hcz56_1, hcz56_2, hfz56_0, hfz56_1, hfz56_2⟩ := zq3 BK233) | (go_at_call 43; (with_reducible refine (raster_get.calls a5_0 a5_1 _ _ l5_2 a0 a1 t244 t245 t246 t247 _ ?side1 ?side2 A47.out).mono ?_); (case side1 => repeat (first | exact (Kd.C_below HR5_2.out HB.out) | (with_reducible refine Kd.C_alloc ?_ _) | (with_reducible refine Kd.C_drewN ?_ _) | (with_reducible refine Kd.C_drew ?_))); (case side2 => exact HC5_2.out); rintro e w57 ⟨rfl, hb⟩; replace BK230 := zk BK230 hb; replace BK231 := zk BK231 hb; replace BK232 := zk BK232 hb; replace BK233 := zk BK233 hb; replace BK234 := zk BK234 hb; replace HB := zb HB hb; (try clear hb); (try clear hb2); (try clear hk); (try clear hi); obtain ⟨hcz58_0, hcz58_1, hcz58_2, hcz58_3, hfz58_0, hfz58_1, hfz58_2, hfz58_3⟩ := zq4 BK234)); try go_wp2_with (first | ((with_reducible refine gate_dst (N := 8) rfl ?_); refine box_event ?hg (N := 8) ?hd (cs := #[.int .i64 0, .int .i64 0, .int .i64 0, .int .i64 0]) (t := 26) ?hr ?_; (case hd => rfl); (case hg => rfl); (case hr => first | (go_simp; done) | (go_simp; rfl)); intro gb234 hg w48 hbox hb; have GW234 := zg HB hg; have GE234 := zg HB hg; have NB230_234 := zn BK230 hg; have NB234_230 := zn' BK230 hg; have NB231_234 := zn BK231 hg; have NB234_231 := zn' BK231 hg; have NB232_234 := zn BK232 hg; have NB234_232 := zn' BK232 hg; have NB233_234 := zn BK233 hg; have NB234_233 := zn' BK233 hg; have n0_ := Aside0.mk (hbox); replace BK230 := zk BK230 hb; replace BK231 := zk BK231 hb; replace BK232 := zk BK232 hb; replace BK233 := zk BK233 hb; replace HB := zb HB hb; have BK234 := n0_; clear n0_; clear hb hbox hg; have hnb49 := NB230_234.out; have hnc49 := NB234_230.out; obtain ⟨hcz50_0, hfz50_0⟩ := zq1 BK230; have hnb51 := NB231_234.out; have hnc51 := NB234_231.out; obtain ⟨hcz52_0, hfz52_0⟩ := zq1 BK231; have hnb53 := NB232_234.out; have hnc53 := NB234_232.out; obtain ⟨hcz54_0, hcz54_1, hcz54_2, hfz54_0, hfz54_1, hfz54_2⟩ := zq3 BK232; have hnb55 := NB233_234.out; have hnc55 := NB234_233.out; obtain ⟨hcz56_0, hcz56_1, hcz56_2, hfz56_0, hfz56_1, hfz56_2⟩ := zq3 BK233) | (go_at_call 43; (with_reducible refine (raster_get.calls a5_0 a5_1 _ _ l5_2 a0 a1 t244 t245 t246 t247 _ ?side1 ?side2 A47.out).mono ?_); (case side1 => repeat (first | exact (Kd.C_below HR5_2.out HB.out) | (with_reducible refine Kd.C_alloc ?_ _) | (with_reducible refine Kd.C_drewN ?_ _) | (with_reducible refine Kd.C_drew ?_))); (case side2 => exact HC5_2.out); rintro e w57 ⟨rfl, hb⟩; replace BK230 := zk BK230 hb; replace BK231 := zk BK231 hb; replace BK232 := zk BK232 hb; replace BK233 := zk BK233 hb; replace BK234 := zk BK234 hb; replace HB := zb HB hb; (try clear hb); (try clear hb2); (try clear hk); (try clear hi); obtain ⟨hcz58_0, hcz58_1, hcz58_2, hcz58_3, hfz58_0, hfz58_1, hfz58_2, hfz58_3⟩ := zq4 BK234)))
   refine bodyPost_ret (results_cell_row rfl _ _ gb234 26 #[.int .i64 t244, .int .i64 t245, .int .i64 t246, .int .i64 t247] (0, 0) _ rfl (by exact zp BK234 rfl) Try.underlying26 rfl (by kernel_rfl)) rfl ?_
   exact ⟨by first | rfl | (simp [errW_none, errW_some] <;> rfl) | (simp [*, errW_none, errW_some] <;> rfl), by exact zbo HB GE234⟩
 ·rw [if_neg c7] at H
  have c7b0 : decide (0 ≤ (wrap64 (a0 - a2_0))) = false := decide_eq_false c7
  clear c7
  replace H := Option.bind_eq_some_iff.mp H
  obtain ⟨⟨t248, t249, t250, t251⟩, A590, H⟩ := H
  replace H : (some (t248, t249, t250, t251)) = some (r1, r2, r3, r4) := H
  have A59 := Aside0.mk A590
  clear A590
  simp only [Option.some.injEq, Prod.mk.injEq] at H
  obtain ⟨rfl, rfl, rfl, rfl⟩ := H
  go_enter Try.func50, Try.ntmps50
  go_wp2_with (first | ((with_reducible refine gate_dst (N := 8) rfl ?_); refine box_event ?hg (N := 8) ?hd (cs := #[.int .i64 0, .int .i64 0, .int .i64 0, .int .i64 0]) (t := 26) ?hr ?_; (case hd => rfl); (case hg => rfl); (case hr => first | (go_simp; done) | (go_simp; rfl)); intro gb234 hg w60 hbox hb; have GW234 := zg HB hg; have GE234 := zg HB hg; have NB230_234 := zn BK230 hg; have NB234_230 := zn' BK230 hg; have NB231_234 := zn BK231 hg; have NB234_231 := zn' BK231 hg; have NB232_234 := zn BK232 hg; have NB234_232 := zn' BK232 hg; have NB233_234 := zn BK233 hg; have NB234_233 := zn' BK233 hg; have n0_ := Aside0.mk (hbox); replace BK230 := zk BK230 hb; replace BK231 := zk BK231 hb; replace BK232 := zk BK232 hb; replace BK233 := zk BK233 hb; replace HB := zb HB hb; have BK234 := n0_; clear n0_; clear hb hbox hg; have hnb61 := NB230_234.out; have hnc61 := NB234_230.out; obtain ⟨hcz62_0, hfz62_0⟩ := zq1 BK230; have hnb63 := NB231_234.out; have hnc63 := NB234_231.out; obtain ⟨hcz64_0, hfz64_0⟩ := zq1 BK231; have hnb65 := NB233_234.out; have hnc65 := NB234_233.out; obtain ⟨hcz66_0, hcz66_1, hcz66_2, hfz66_0, hfz66_1, hfz66_2⟩ := zq3 BK233) | (go_at_call 43; (with_reducible refine (raster_get.calls a5_0 a5_1 _ _ l5_2 a0 a1 t248 t249 t250 t251 _ ?side1 ?side2 A59.out).mono ?_); (case side1 => repeat (first | exact (Kd.C_below HR5_2.out HB.out) | (with_reducible refine Kd.C_alloc ?_ _) | (with_reducible refine Kd.C_drewN ?_ _) | (with_reducible refine Kd.C_drew ?_))); (case side2 => exact HC5_2.out); rintro e w67 ⟨rfl, hb⟩; replace BK230 := zk BK230 hb; replace BK231 := zk BK231 hb; replace BK232 := zk BK232 hb; replace BK233 := zk BK233 hb; replace BK234 := zk BK234 hb; replace HB := zb HB hb; (try clear hb); (try clear hb2); (try clear hk); (try clear hi); have hnb68 := NB234_232.out; have hnc68 := NB232_234.out; obtain ⟨hcz69_0, hcz69_1, hcz69_2, hcz69_3, hfz69_0, hfz69_1, hfz69_2, hfz69_3⟩ := zq4 BK234))
  repeat (go_quiet (first | ((with_reducible refine gate_dst (N := 8) rfl ?_); refine box_event ?hg (N := 8) ?hd (cs := #[.int .i64 0, .int .i64 0, .int .i64 0, .int .i64 0]) (t := 26) ?hr ?_; (case hd => rfl); (case hg => rfl); (case hr => first | (go_simp; done) | (go_simp; rfl)); intro gb234 hg w60 hbox hb; have GW234 := zg HB hg; have GE234 := zg HB hg; have NB230_234 := zn BK230 hg; have NB234_230 := zn' BK230 hg; have NB231_234 := zn BK231 hg; have NB234_231 := zn' BK231 hg; have NB232_234 := zn BK232 hg; have NB234_232 := zn' BK232 hg; have NB233_234 := zn BK233 hg; have NB234_233 := zn' BK233 hg; have n0_ := Aside0.mk (hbox); replace BK230 := zk BK230 hb; replace BK231 := zk BK231 hb; replace BK232 := zk BK232 hb; replace BK233 := zk BK233 hb; replace HB := zb HB hb; have BK234 := n0_; clear n0_; clear hb hbox hg; have hnb61 := NB230_234.out; have hnc61 := NB234_230.out; obtain ⟨hcz62_0, hfz62_0⟩ := zq1 BK230; have hnb63 := NB231_234.out; have hnc63 := NB234_231.out; obtain ⟨hcz64_0, hfz64_0⟩ := zq1 BK231; have hnb65 := NB233_234.out; have hnc65 := NB234_233.out; obtain ⟨hcz66_0, hcz66_1, hcz66_2, hfz66_0, hfz66_1, hfz66_2⟩ := zq3 BK233) | (go_at_call 43; (with_reducible refine (raster_get.calls a5_0 a5_1 _ _ l5_2 a0 a1 t248 t249 t250 t251 _ ?side1 ?side2 A59.out).mono ?_); (case side1 => repeat (first | exact (Kd.C_below HR5_2.out HB.out) | (with_reducible refine Kd.C_alloc ?_ _) | (with_reducible refine Kd.C_drewN ?_ _) | (with_reducible refine Kd.C_drew ?_))); (case side2 => exact HC5_2.out); rintro e w67 ⟨rfl, hb⟩; replace BK230 := zk BK230 hb; replace BK231 := zk BK231 hb; replace BK232 := zk BK232 hb; replace BK233 := zk BK233 hb; replace BK234 := zk BK234 hb; replace HB := zb HB hb; (try clear hb); (try clear hb2); (try clear hk); (try clear hi); have hnb68 := NB234_232.out; have hnc68 := NB232_234.out; obtain ⟨hcz69_0, hcz69_1, hcz69_2, hcz69_3, hfz69_0, hfz69_1, hfz69_2, hfz69_3⟩ := zq4 BK234)); try go_wp2_with (first | ((with_reducible refine gate_dst (N := 8) rfl ?_); refine box_event ?hg (N := 8) ?hd (cs := #[.int .i64 0, .int .i64 0, .int .i64 0, .int .i64 0]) (t := 26) ?hr ?_; (case hd => rfl); (case hg => rfl); (case hr => first | (go_simp; done) | (go_simp; rfl)); intro gb234 hg w60 hbox hb; have GW234 := zg HB hg; have GE234 := zg HB hg; have NB230_234 := zn BK230 hg; have NB234_230 := zn' BK230 hg; have NB231_234 := zn BK231 hg; have NB234_231 := zn' BK231 hg; have NB232_234 := zn BK232 hg; have NB234_232 := zn' BK232 hg; have NB233_234 := zn BK233 hg; have NB234_233 := zn' BK233 hg; have n0_ := Aside0.mk (hbox); replace BK230 := zk BK230 hb; replace BK231 := zk BK231 hb; replace BK232 := zk BK232 hb; replace BK233 := zk BK233 hb; replace HB := zb HB hb; have BK234 := n0_; clear n0_; clear hb hbox hg; have hnb61 := NB230_234.out; have hnc61 := NB234_230.out; obtain ⟨hcz62_0, hfz62_0⟩ := zq1 BK230; have hnb63 := NB231_234.out; have hnc63 := NB234_231.out; obtain ⟨hcz64_0, hfz64_0⟩ := zq1 BK231; have hnb65 := NB233_234.out; have hnc65 := NB234_233.out; obtain ⟨hcz66_0, hcz66_1, hcz66_2, hfz66_0, hfz66_1, hfz66_2⟩ := zq3 BK233) | (go_at_call 43; (with_reducible refine (raster_get.calls a5_0 a5_1 _ _ l5_2 a0 a1 t248 t249 t250 t251 _ ?side1 ?side2 A59.out).mono ?_); (case side1 => repeat (first | exact (Kd.C_below HR5_2.out HB.out) | (with_reducible refine Kd.C_alloc ?_ _) | (with_reducible refine Kd.C_drewN ?_ _) | (with_reducible refine Kd.C_drew ?_))); (case side2 => exact HC5_2.out); rintro e w67 ⟨rfl, hb⟩; replace BK230 := zk BK230 hb; replace BK231 := zk BK231 hb; replace BK232 := zk BK232 hb; replace BK233 := zk BK233 hb; replace BK234 := zk BK234 hb; replace HB := zb HB hb; (try clear hb); (try clear hb2); (try clear hk); (try clear hi); have hnb68 := NB234_232.out; have hnc68 := NB232_234.out; obtain ⟨hcz69_0, hcz69_1, hcz69_2, hcz69_3, hfz69_0, hfz69_1, hfz69_2, hfz69_3⟩ := zq4 BK234)))
  refine bodyPost_ret (results_cell_row rfl _ _ gb234 26 #[.int .i64 t248, .int .i64 t249, .int .i64 t250, .int .i64 t251] (0, 0) _ rfl (by exact zp BK234 rfl) Try.underlying26 rfl (by kernel_rfl)) rfl ?_
  exact ⟨by first | rfl | (simp [errW_none, errW_some] <;> rfl) | (simp [*, errW_none, errW_some] <;> rfl), by exact zbo HB GE234⟩

/-! ### raster_fill__raster_Put_1: function 40 -/
mutual
def raster_fill__raster_Put_1.l0 : Nat → Int → Int → Int → Int → Int → Int → Int → List (S26) → Int → Int → List (S26) → Int → Int → List (S26) → Option (Int × Int × (List (S26)))
 | 0, _, _, _, _, _, _, _, _, _, _, _, _, _, _ => none
 | k + 1, x0, x17, x18, x253000, x254000, x255000, x255001, x255002, x256000, x256001, x256002, x261000, x261001, x261002 => if x18 < x17 then (raster_fill__raster_Put_1.l1 k x0 x18 x17 x18 x0 0 x253000 x254000 x255000 x255001 x255002 x256000 x256001 x256002 x261000 x261001 x261002) else (some (x261000, x261001, x261002))
def raster_fill__raster_Put_1.l1 : Nat → Int → Int → Int → Int → Int → Int → Int → Int → Int → Int → List (S26) → Int → Int → List (S26) → Int → Int → List (S26) → Option (Int × Int × (List (S26)))
 | 0, _, _, _, _, _, _, _, _, _, _, _, _, _, _, _, _, _ => none
 | k + 1, x0, x8, x17, x18, x21, x22, x253000, x254000, x255000, x255001, x255002, x256000, x256001, x256002, x261000, x261001, x261002 => if x22 < x21 then ((raster_Put_1.f x22 x8 x253000 x254000 x255000 x255001 x255002 x256000 x256001 x256002).bind fun bt261 => (if x261002.length < 4398046511104 then (raster_fill__raster_Put_1.l1 k x0 x8 x17 x18 x21 (wrap64 (x22 + 1)) x253000 x254000 x255000 x255001 x255002 x256000 x256001 x256002 x261000 x261001 (x261002 ++ [(⟨bt261.1, bt261.2.1, bt261.2.2.1, bt261.2.2.2⟩ : S26)])) else (none))) else (raster_fill__raster_Put_1.l0 k x0 x17 (wrap64 (x18 + 1)) x253000 x254000 x255000 x255001 x255002 x256000 x256001 x256002 x261000 x261001 x261002)
end
def raster_fill__raster_Put_1.f (k : Nat) (a0 : Int) (a1 : Int) (a2_0 : Int) (a2_1 : Int) (a2_2 : Int) (a2_3 : Int) (l2_4 : List (S26)) (a2_5 : Int) (a2_6 : Int) (l2_7 : List (S26)) : Option (Int × Int × (List (S26))) := if 0 ≤ (wrap64 (a0 * a1)) then (if (wrap64 (a0 * a1) : Int).toNat ≤ 8796093022208 then (raster_fill__raster_Put_1.l0 k a0 a1 0 a2_0 a2_1 a2_2 a2_3 l2_4 a2_5 a2_6 l2_7 a0 a1 (([] : List (S26)))) else (none)) else (none)
theorem raster_fill__raster_Put_1.mono_l : ∀ k, (∀ y0 y1 y2 y3 y4 y5 y6 y7 y8 y9 y10 y11 y12 y13, LeO (raster_fill__raster_Put_1.l0 k y0 y1 y2 y3 y4 y5 y6 y7 y8 y9 y10 y11 y12 y13) (raster_fill__raster_Put_1.l0 (k + 1) y0 y1 y2 y3 y4 y5 y6 y7 y8 y9 y10 y11 y12 y13)) ∧ (∀ y0 y1 y2 y3 y4 y5 y6 y7 y8 y9 y10 y11 y12 y13 y14 y15 y16, LeO (raster_fill__raster_Put_1.l1 k y0 y1 y2 y3 y4 y5 y6 y7 y8 y9 y10 y11 y12 y13 y14 y15 y16) (raster_fill__raster_Put_1.l1 (k + 1) y0 y1 y2 y3 y4 y5 y6 y7 y8 y9 y10 y11 y12 y13 y14 y15 y16))
 | 0 => ⟨fun _ _ _ _ _ _ _ _ _ _ _ _ _ _ r h => by simp [raster_fill__raster_Put_1.l0] at h, fun _ _ _ _ _ _ _ _ _ _ _ _ _ _ _ _ _ r h => by simp [raster_fill__raster_Put_1.l1] at h⟩
 | k + 1 => by
  obtain ⟨ih0, ih1⟩ := raster_fill__raster_Put_1.mono_l k
  refine ⟨?_, ?_⟩
  ·intro y0 y1 y2 y3 y4 y5 y6 y7 y8 y9 y10 y11 y12 y13
   unfold raster_fill__raster_Put_1.l0
   repeat' first
   | (with_reducible exact ih0 _ _ _ _ _ _ _ _ _ _ _ _ _ _)
   | (with_reducible exact ih1 _ _ _ _ _ _ _ _ _ _ _ _ _ _ _ _ _)
   | (with_reducible exact LeO.refl _)
   | (with_reducible exact LeO.none _)
   | (with_reducible refine LeO.ite ?_ ?_)
   | (with_reducible refine LeO.bind ?_ (fun _ => ?_))
   | exact ih0 _ _ _ _ _ _ _ _ _ _ _ _ _ _
   | exact ih1 _ _ _ _ _ _ _ _ _ _ _ _ _ _ _ _ _
   | exact LeO.none _
   | refine LeO.ite ?_ ?_
   | refine LeO.bind ?_ (fun _ => ?_)
  ·intro y0 y1 y2 y3 y4 y5 y6 y7 y8 y9 y10 y11 y12 y13 y14 y15 y16
   unfold raster_fill__raster_Put_1.l1
   repeat' first
   | (with_reducible exact ih0 _ _ _ _ _ _ _ _ _ _ _ _ _ _)
   | (with_reducible exact ih1 _ _ _ _ _ _ _ _ _ _ _ _ _ _ _ _ _)
   | (with_reducible exact LeO.refl _)
   | (with_reducible exact LeO.none _)
   | (with_reducible refine LeO.ite ?_ ?_)
   | (with_reducible refine LeO.bind ?_ (fun _ => ?_))
   | exact ih0 _ _ _ _ _ _ _ _ _ _ _ _ _ _
   | exact ih1 _ _ _ _ _ _ _ _ _ _ _ _ _ _ _ _ _
   | exact LeO.none _
   | refine LeO.ite ?_ ?_
   | refine LeO.bind ?_ (fun _ => ?_)
theorem raster_fill__raster_Put_1.mono : ∀ a0 a1 a2 a3 a4 a5 a6 a7 a8 a9 k, LeO (raster_fill__raster_Put_1.f k a0 a1 a2 a3 a4 a5 a6 a7 a8 a9) (raster_fill__raster_Put_1.f (k + 1) a0 a1 a2 a3 a4 a5 a6 a7 a8 a9) := by
 intro a0 a1 a2 a3 a4 a5 a6 a7 a8 a9 k
 obtain ⟨ih0, ih1⟩ := raster_fill__raster_Put_1.mono_l k
 unfold raster_fill__raster_Put_1.f
 repeat' first
   | (with_reducible exact ih0 _ _ _ _ _ _ _ _ _ _ _ _ _ _)
   | (with_reducible exact ih1 _ _ _ _ _ _ _ _ _ _ _ _ _ _ _ _ _)
   | (with_reducible exact LeO.refl _)
   | (with_reducible exact LeO.none _)
   | (with_reducible refine LeO.ite ?_ ?_)
   | (with_reducible refine LeO.bind ?_ (fun _ => ?_))
   | exact ih0 _ _ _ _ _ _ _ _ _ _ _ _ _ _
   | exact ih1 _ _ _ _ _ _ _ _ _ _ _ _ _ _ _ _ _
   | exact LeO.none _
   | refine LeO.ite ?_ ?_
   | refine LeO.bind ?_ (fun _ => ?_)
def raster_fill__raster_Put_1.T8 : Bool × List (List Nat × List Nat) := (true, [([], []), ([0], [0]), ([], []), ([], []), ([], []), ([2, 3, 4], [2, 3, 4]), ([5], [5]), ([1, 6, 5], [1, 6]), ([0, 1, 2, 3, 4, 5, 6, 7], []), ([8, 7, 7, 0, 1, 2, 3, 4, 5, 6, 7], [7, 8])])
def raster_fill__raster_Put_1.B8 : List Nat := [0, 1, 0, 0, 0, 28, 60, 127, 255, 511]
theorem raster_fill__raster_Put_1.tab8 : rtab .any (opsOf Try.f40 8) = raster_fill__raster_Put_1.T8 := by kernel_rfl
theorem raster_fill__raster_Put_1.bits8 : waitsOk raster_fill__raster_Put_1.T8.2 raster_fill__raster_Put_1.B8 = true := by kernel_rfl
set_option maxHeartbeats 8000000 in
set_option maxRecDepth 100000 in
theorem raster_fill__raster_Put_1.calls (k : Nat) (a0 : Int) (a1 : Int) (gc2_0 : Nat) (gc2_1 : Nat) (gc2_2 : Nat) (gc2_3 : Nat) (a2_0 : Int) (a2_1 : Int) (a2_2 : Int) (a2_3 : Int) (A2_4 : Option Addr) (c2_4 : Nat) (l2_4 : List (S26)) (a2_5 : Int) (a2_6 : Int) (A2_7 : Option Addr) (c2_7 : Nat) (l2_7 : List (S26)) (r1 : Int) (r2 : Int) (r3 : List (S26)) (w : World) (hp2_0 : w.heap[gc2_0]? = some (.cells #[.int .i64 a2_0] 3 (0, 0))) (hp2_1 : w.heap[gc2_1]? = some (.cells #[.int .i64 a2_1] 3 (0, 0))) (hp2_2 : w.heap[gc2_2]? = some (.cells #[.int .i64 a2_2, .int .i64 a2_3, .slice A2_4 l2_4.length c2_4] 24 (0, 0))) (hp2_3 : w.heap[gc2_3]? = some (.cells #[.int .i64 a2_5, .int .i64 a2_6, .slice A2_7 l2_7.length c2_7] 24 (0, 0))) (hr2_4 : Kd.C k26 w A2_4 l2_4.length l2_4) (hc2_4 : l2_4.length ≤ c2_4) (hr2_7 : Kd.C k26 w A2_7 l2_7.length l2_7) (hc2_7 : l2_7.length ≤ c2_7) (h : raster_fill__raster_Put_1.f k a0 a1 a2_0 a2_1 a2_2 a2_3 l2_4 a2_5 a2_6 l2_7 = some (r1, r2, r3)) :
  Calls Try.prog 40 #[.int .i64 a0, .int .i64 a1, .func (.func 50) #[] #[.pointer (some ⟨gc2_0, 0, none⟩), .pointer (some ⟨gc2_1, 0, none⟩), .pointer (some ⟨gc2_2, 0, none⟩), .pointer (some ⟨gc2_3, 0, none⟩)]] w fun e w' => ∃ v2_ : Value, e = .returned (.agg #[.int .i64 r1, .int .i64 r2, v2_]) ∧ Kd.R k26 26 w' w.heap.size (fun _ => True) v2_ r3 ∧ Below w.heap.size w w' := by
 have hu24 := Try.underlying24
 have HR2_4 := Aside0.mk hr2_4
 have HC2_4 := Aside0.mk hc2_4
 clear hr2_4 hc2_4
 have HR2_7 := Aside0.mk hr2_7
 have HC2_7 := Aside0.mk hc2_7
 clear hr2_7 hc2_7
 have BK252 := Aside0.mk hp2_0
 have GL252 := Aside0.mk (show gc2_0 < w.heap.size from blk_lt hp2_0)
 clear hp2_0
 have BK253 := Aside0.mk hp2_1
 have GL253 := Aside0.mk (show gc2_1 < w.heap.size from blk_lt hp2_1)
 clear hp2_1
 have BK254 := Aside0.mk hp2_2
 have GL254 := Aside0.mk (show gc2_2 < w.heap.size from blk_lt hp2_2)
 clear hp2_2
 have BK255 := Aside0.mk hp2_3
 have GL255 := Aside0.mk (show gc2_3 < w.heap.size from blk_lt hp2_3)
 clear hp2_3
 have HB := Aside0.mk (Below.refl w.heap.size w)
 have H : (if 0 ≤ (wrap64 (a0 * a1)) then (if (wrap64 (a0 * a1) : Int).toNat ≤ 8796093022208 then (raster_fill__raster_Put_1.l0 k a0 a1 0 a2_0 a2_1 a2_2 a2_3 l2_4 a2_5 a2_6 l2_7 a0 a1 (([] : List (S26)))) else (none)) else (none)) = some (r1, r2, r3) := h
 clear h
 obtain ⟨ji4, hji4⟩ : ∃ j_ : Int, (wrap64 (a0 * a1)) = j_ := ⟨_, rfl⟩
 replace H : (if 0 ≤ (ji4) then (if (ji4 : Int).toNat ≤ 8796093022208 then (raster_fill__raster_Put_1.l0 k a0 a1 0 a2_0 a2_1 a2_2 a2_3 l2_4 a2_5 a2_6 l2_7 a0 a1 (([] : List (S26)))) else (none)) else (none)) = some (r1, r2, r3) := by first | (rw [hji4] at H; exact H) | (simp only [hji4] at H ⊢; exact H)
 have hji4w : (IntKind.i64.wrap (a0 * a1)) = ji4 := (i64_w _).trans hji4
 by_cases c5 : 0 ≤ (ji4)
 ·rw [if_pos c5] at H
  have c5b0 := eq_true c5
  have c5b1 : decide (0 ≤ (ji4)) = true := decide_eq_true c5
  clear c5
  by_cases c6 : (ji4 : Int).toNat ≤ 8796093022208
  ·rw [if_pos c6] at H
   have c6b0 := eq_true c6
   have c6b1 : decide ((ji4 : Int).toNat ≤ 8796093022208) = true := decide_eq_true c6
   clear c6
   obtain ⟨y257, hy257⟩ : ∃ y_ : List (S26), y_ = (([] : List (S26))) := ⟨_, rfl⟩
   replace H : (raster_fill__raster_Put_1.l0 k a0 a1 0 a2_0 a2_1 a2_2 a2_3 l2_4 a2_5 a2_6 l2_7 a0 a1 y257) = some (r1, r2, r3) := by first | (rw [hy257]; with_reducible exact H) | (have H2_ := (Option.bind_some _ _).symm.trans H; rw [hy257]; with_reducible exact H2_) | (have H2_ := (Option.bind_some _ _).symm.trans H; with_reducible exact H2_) | with_reducible exact H | (rw [hy257]; exact H) | exact H
   have Ny257 := Aside0.mk hy257
   clear hy257
   have H' := Aside0.mk H
   clear H
   go_enter Try.func40, Try.ntmps40
   go_wp2_with (first | ((with_reducible refine gate_dst (N := 6) rfl ?_); refine box_event ?hg (N := 6) ?hd (cs := #[.int .i64 0, .int .i64 0, .slice none 0 0]) (t := 24) ?hr ?_; (case hd => rfl); (case hg => rfl); (case hr => first | (go_simp; done) | (go_simp; rfl)); intro gb256 hg w7 hbox hb; have GW256 := zg HB hg; have GE256 := zg HB hg; have NB252_256 := zn BK252 hg; have NB256_252 := zn' BK252 hg; have NB253_256 := zn BK253 hg; have NB256_253 := zn' BK253 hg; have NB254_256 := zn BK254 hg; have NB256_254 := zn' BK254 hg; have NB255_256 := zn BK255 hg; have NB256_255 := zn' BK255 hg; have n0_ := Aside0.mk (hbox); replace BK252 := zk BK252 hb; replace BK253 := zk BK253 hb; replace BK254 := zk BK254 hb; replace BK255 := zk BK255 hb; replace HB := zb HB hb; have BK256 := n0_; clear n0_; clear hb hbox hg) | ((with_reducible refine gate_dst (N := 15) rfl ?_); refine Kd.R_make0 k26 _ 26 rfl (N := 15) rfl 22 _ _ rfl ji4 rfl rfl Try.underlying22 (.agg #[(.int .i64 0), (.int .i64 0), (.int .i64 0), (.int .i64 0)]) 32 info26 rfl (by decide) (by omega) z26 (ok := fun _ => True) (okp := fun _ => True) (k26_mkM _ _ _ z26 ) (fun _ hk => hk) trivial (of_decide_eq_true (by first | (with_reducible assumption) | assumption)) (Nat.le_trans (Nat.mul_le_mul_right _ (of_decide_eq_true (by first | (with_reducible assumption) | assumption) : ji4.toNat ≤ 8796093022208)) (by omega)) (Below.refl _ _) (Nat.le_refl _) ?_; intro v258 w8 ho9 hb hg_ hnew_; clear hg_ hnew_; (first | rw [← Ny257.out] at ho9 | (simp only [Int.reduceToNat] at ho9; rw [← Ny257.out] at ho9)); have HO259 := zl HB ho9; replace BK252 := zk BK252 hb; replace BK253 := zk BK253 hb; replace BK254 := zk BK254 hb; replace BK255 := zk BK255 hb; replace BK256 := zk BK256 hb; replace HB := zb HB hb; clear hb ho9; obtain ⟨Ao10, co10, eo10⟩ := Kd.R_slice HO259.out; subst eo10) | ((with_reducible refine gate_dst (N := 7) rfl ?_); refine box_event ?hg (N := 7) ?hd (cs := #[.int .i64 0, .int .i64 0, .slice none 0 0]) (t := 24) ?hr ?_; (case hd => rfl); (case hg => rfl); (case hr => first | (go_simp; done) | (go_simp; rfl)); intro gb260 hg w11 hbox hb; have GW260 := zg HB hg; have GE260 := zg HB hg; have NB252_260 := zn BK252 hg; have NB260_252 := zn' BK252 hg; have NB253_260 := zn BK253 hg; have NB260_253 := zn' BK253 hg; have NB254_260 := zn BK254 hg; have NB260_254 := zn' BK254 hg; have NB255_260 := zn BK255 hg; have NB260_255 := zn' BK255 hg; have NB256_260 := zn BK256 hg; have NB260_256 := zn' BK256 hg; have n0_ := Aside0.mk (hbox); replace HO259 := zr HO259 hb; replace BK252 := zk BK252 hb; replace BK253 := zk BK253 hb; replace BK254 := zk BK254 hb; replace BK255 := zk BK255 hb; replace BK256 := zk BK256 hb; replace HB := zb HB hb; have BK260 := n0_; clear n0_; clear hb hbox hg; have hnb12 := NB260_252.out; have hnc12 := NB252_260.out; have hnb13 := NB260_253.out; have hnc13 := NB253_260.out; have hnb14 := NB260_254.out; have hnc14 := NB254_260.out; have hnb15 := NB260_255.out; have hnc15 := NB255_260.out; have hnb16 := NB260_256.out; have hnc16 := NB256_260.out; obtain ⟨hcz17_0, hcz17_1, hcz17_2, hfz17_0, hfz17_1, hfz17_2⟩ := zq3 BK260))
   (try simp only [Act.put, sA, sB, sC])
   go_loopg [18] k (fun kq v18 w' => ∃ (x18_1 : Int) (x261002_1 : List (S26)) (u261002 : Value), v18 = .int .i64 x18_1 ∧ Aside0 (raster_fill__raster_Put_1.l0 kq a0 a1 x18_1 a2_0 a2_1 a2_2 a2_3 l2_4 a2_5 a2_6 l2_7 a0 a1 x261002_1 = some (r1, r2, r3)) ∧ Aside0 (kq ≤ k) ∧ Aside0 (Kd.R k26 26 w' w.heap.size (fun _ => True) u261002 x261002_1) ∧ Aside0 (w'.heap[gc2_0]? = some (.cells #[.int .i64 a2_0] 3 (0, 0))) ∧ Aside0 (w'.heap[gc2_1]? = some (.cells #[.int .i64 a2_1] 3 (0, 0))) ∧ Aside0 (w'.heap[gc2_2]? = some (.cells #[.int .i64 a2_2, .int .i64 a2_3, (.slice A2_4 l2_4.length c2_4)] 24 (0, 0))) ∧ Aside0 (w'.heap[gc2_3]? = some (.cells #[.int .i64 a2_5, .int .i64 a2_6, (.slice A2_7 l2_7.length c2_7)] 24 (0, 0))) ∧ Aside0 (w'.heap[gb256]? = some (.cells #[.int .i64 0, .int .i64 0, (.slice none 0 0)] 24 (0, 0))) ∧ Aside0 (w'.heap[gb260]? = some (.cells #[.int .i64 a0, .int .i64 a1, u261002] 24 (0, 0))) ∧ Aside0 (Below w.heap.size w w'))
   case atStart => exact ⟨(0), (y257), (.slice Ao10 y257.length co10), (by first | rfl | (simp; done) | (simp [*]; done)), H', ⟨Nat.le_refl _⟩, ⟨by exact zro HO259 BK260 (by decide)⟩, ⟨by exact zf BK252 NB252_260⟩, ⟨by exact zf BK253 NB253_260⟩, ⟨by exact zf BK254 NB254_260⟩, ⟨by exact zf BK255 NB255_260⟩, ⟨by exact zf BK256 NB256_260⟩, ⟨by exact zp BK260 rfl⟩, ⟨by exact zbo HB GE260⟩⟩
   case round =>
    clear H'
    try clear c1
    try clear c2
    try clear p2
    try clear q3
    try clear c4
    try clear c5
    try clear c5b0
    try clear c5b1
    try clear c6
    try clear c6b0
    try clear c6b1
    try clear p6
    try clear c12
    try clear c13
    try clear c14
    try clear c15
    try clear c16
    try clear hcz17_0
    try clear hcz17_1
    try clear hcz17_2
    try clear hfz17_0
    try clear hfz17_1
    try clear hfz17_2
    obtain ⟨x18_1, x261002_1, u261002, rfl, HA, HK1, HO_261002, BK252, BK253, BK254, BK255, BK256, BK260, HB⟩ := hrel
    cases gk with
    | zero => exact absurd HA.out (by simp [raster_fill__raster_Put_1.l0])
    | succ k1 =>
     have H := HA.out
     clear HA
     simp only [raster_fill__raster_Put_1.l0] at H
     by_cases c18 : x18_1 < a1
     ·rw [if_pos c18] at H
      have c18b0 : decide (x18_1 < a1) = true := decide_eq_true c18
      clear c18
      have H' := Aside0.mk H
      clear H
      go_wp2
      go_loopg [22] k1 (fun kq v22 w' => ∃ (x22_2 : Int) (x261002_2 : List (S26)) (u261002 : Value), v22 = .int .i64 x22_2 ∧ Aside0 (raster_fill__raster_Put_1.l1 kq a0 x18_1 a1 x18_1 a0 x22_2 a2_0 a2_1 a2_2 a2_3 l2_4 a2_5 a2_6 l2_7 a0 a1 x261002_2 = some (r1, r2, r3)) ∧ Aside0 (kq ≤ k1) ∧ Aside0 (Kd.R k26 26 w' w.heap.size (fun _ => True) u261002 x261002_2) ∧ Aside0 (w'.heap[gc2_0]? = some (.cells #[.int .i64 a2_0] 3 (0, 0))) ∧ Aside0 (w'.heap[gc2_1]? = some (.cells #[.int .i64 a2_1] 3 (0, 0))) ∧ Aside0 (w'.heap[gc2_2]? = some (.cells #[.int .i64 a2_2, .int .i64 a2_3, (.slice A2_4 l2_4.length c2_4)] 24 (0, 0))) ∧ Aside0 (w'.heap[gc2_3]? = some (.cells #[.int .i64 a2_5, .int .i64 a2_6, (.slice A2_7 l2_7.length c2_7)] 24 (0, 0))) ∧ Aside0 (w'.heap[gb256]? = some (.cells #[.int .i64 0, .int .i64 0, (.slice none 0 0)] 24 (0, 0))) ∧ Aside0 (w'.heap[gb260]? = some (.cells #[.int .i64 a0, .int .i64 a1, u261002] 24 (0, 0))) ∧ Aside0 (Below w.heap.size w w'))
      case atStart => exact ⟨(0), (x261002_1), (u261002), (by first | rfl | (simp; done) | (simp [*]; done)), H', ⟨Nat.le_refl _⟩, ⟨by exact zr0 HO_261002⟩, ⟨by exact zk0 BK252⟩, ⟨by exact zk0 BK253⟩, ⟨by exact zk0 BK254⟩, ⟨by exact zk0 BK255⟩, ⟨by exact zk0 BK256⟩, ⟨by exact zk0 BK260⟩, ⟨by exact zb0 HB⟩⟩
      case round =>
       clear H'
       try clear c1
       try clear c2
       try clear p2
       try clear q3
       try clear c4
       try clear c5
       try clear c5b0
       try clear c5b1
       try clear c6
       try clear c6b0
       try clear c6b1
       try clear p6
       try clear c12
       try clear c13
       try clear c14
       try clear c15
       try clear c16
       try clear c18
       try clear c18b0
       try clear hcz17_0
       try clear hcz17_1
       try clear hcz17_2
       try clear hfz17_0
       try clear hfz17_1
       try clear hfz17_2
       try clear p2
       try clear p6
       try clear q3
       obtain ⟨x22_2, x261002_2, u261002, rfl, HA, HK2, HO_261002, BK252, BK253, BK254, BK255, BK256, BK260, HB⟩ := hrel
       cases gk with
       | zero => exact absurd HA.out (by simp [raster_fill__raster_Put_1.l1])
       | succ k2 =>
        have H := HA.out
        clear HA
        simp only [raster_fill__raster_Put_1.l1] at H
        by_cases c19 : x22_2 < a0
        ·rw [if_pos c19] at H
         have c19b0 : decide (x22_2 < a0) = true := decide_eq_true c19
         clear c19
         replace H := Option.bind_eq_some_iff.mp H
         obtain ⟨⟨t261, t262, t263, t264⟩, A200, H⟩ := H
         replace H : (if x261002_2.length < 4398046511104 then (raster_fill__raster_Put_1.l1 k2 a0 x18_1 a1 x18_1 a0 (wrap64 (x22_2 + 1)) a2_0 a2_1 a2_2 a2_3 l2_4 a2_5 a2_6 l2_7 a0 a1 (x261002_2 ++ [(⟨t261, t262, t263, t264⟩ : S26)])) else (none)) = some (r1, r2, r3) := H
         have A20 := Aside0.mk A200
         clear A200
         by_cases c21 : x261002_2.length < 4398046511104
         ·rw [if_pos c21] at H
          have LMc21 := Aside0.mk c21
          clear c21
          obtain ⟨y265, hy265⟩ : ∃ y_ : List (S26), y_ = (x261002_2 ++ [(⟨t261, t262, t263, t264⟩ : S26)]) := ⟨_, rfl⟩
          replace H : (raster_fill__raster_Put_1.l1 k2 a0 x18_1 a1 x18_1 a0 (wrap64 (x22_2 + 1)) a2_0 a2_1 a2_2 a2_3 l2_4 a2_5 a2_6 l2_7 a0 a1 y265) = some (r1, r2, r3) := by first | (rw [hy265]; with_reducible exact H) | (have H2_ := (Option.bind_some _ _).symm.trans H; rw [hy265]; with_reducible exact H2_) | (have H2_ := (Option.bind_some _ _).symm.trans H; with_reducible exact H2_) | with_reducible exact H | (rw [hy265]; exact H) | exact H
          have Ny265 := Aside0.mk hy265
          clear hy265
          have H' := Aside0.mk H
          clear H
          try go_wp2
          replace HO_261002 := zrd HO_261002
          replace BK252 := zkd BK252
          replace BK253 := zkd BK253
          replace BK254 := zkd BK254
          replace BK255 := zkd BK255
          replace BK256 := zkd BK256
          replace BK260 := zkd BK260
          replace HB := zbd HB
          refine start_ (n := 10) (S := fun w' => w'.cell? ⟨gb260, 0, none⟩ = some (.int .i64 a0) ∧ w'.cell? ⟨gb260, 1, none⟩ = some (.int .i64 a1) ∧ w'.cell? ⟨gb260, 2, none⟩ = some (u261002)) (ds := [9]) (bs 10 0) (by kernel_rfl) rfl rfl ⟨(blk_cell BK260.out 0).trans rfl, (blk_cell BK260.out 1).trans rfl, (blk_cell BK260.out 2).trans rfl⟩ (fun hHeld => ?_); refine with_tabW raster_fill__raster_Put_1.tab8 raster_fill__raster_Put_1.bits8 (fun HT_ HW_ => ?_)
          generalize wr.drew = w22 at HO_261002 BK252 BK253 BK254 BK255 BK256 BK260 HB hHeld ⊢
          refine pure_ (i := 0) (N := some 25) (v := ?_) (a' := ?_) (bs 10 1) rfl rfl (any_of HT_.out (by kernel_rfl)) (fun _ _ _ h => h) (Or.inl ⟨by rfl, ?_⟩) ?_ ?_
          rotate_left
          ·intro w'
           go_simp
           with_reducible rfl
          rotate_left
          ·simp only [Act.put, sA, sB, sC, i64_w, i32_w]
           rfl
          refine pure_ (i := 2) (N := some 27) (v := ?_) (a' := ?_) (bs 10 5) rfl rfl (any_of HT_.out (by kernel_rfl)) (fun _ _ _ h => h) (Or.inl ⟨by rfl, ?_⟩) ?_ ?_
          rotate_left
          ·intro w'
           go_simp
           with_reducible rfl
          rotate_left
          ·simp only [Act.put, sA, sB, sC, i64_w, i32_w]
           rfl
          refine pure_ (i := 3) (N := some 28) (v := ?_) (a' := ?_) (bs 10 13) rfl rfl (any_of HT_.out (by kernel_rfl)) (fun _ _ _ h => h) (Or.inl ⟨by rfl, ?_⟩) ?_ ?_
          rotate_left
          ·intro w'
           go_simp
           with_reducible rfl
          rotate_left
          ·simp only [Act.put, sA, sB, sC, i64_w, i32_w]
           rfl
          refine pure_ (i := 4) (N := some 29) (v := ?_) (a' := ?_) (bs 10 29) rfl rfl (any_of HT_.out (by kernel_rfl)) (fun _ _ _ h => h) (Or.inl ⟨by rfl, ?_⟩) ?_ ?_
          rotate_left
          ·intro w'
           go_simp
           with_reducible rfl
          rotate_left
          ·simp only [Act.put, sA, sB, sC, i64_w, i32_w]
           rfl
          refine take_ (i := 1) (N := some 26) (v := ?_) (a' := ?_) (bs 10 31) rfl rfl (take_ofW HT_.out HW_.out (by kernel_rfl)) (fun _ _ _ h => h) (Or.inl ⟨by rfl, ?_⟩) hHeld ?_ ?_
          rotate_left
          ·rintro w' ⟨s0, s1, s2⟩
           go_simp
           with_reducible rfl
          rotate_left
          ·simp only [Act.put, sA, sB, sC, i64_w, i32_w]
           rfl
          refine one_ (i := 5) (N := some 30) (bs 10 63) rfl rfl (one_of HT_.out (by kernel_rfl)) (by decide) (fun K hK => ?_)
          refine goesT_ (t := 27) Try.func50 (by kernel_rfl) rfl #[.pointer (some ⟨gc2_0, 0, none⟩), .pointer (some ⟨gc2_1, 0, none⟩), .pointer (some ⟨gc2_2, 0, none⟩), .pointer (some ⟨gc2_3, 0, none⟩)] #[.int .i64 x22_2, .int .i64 x18_1, .pointer (some ⟨gc2_0, 0, none⟩), .pointer (some ⟨gc2_1, 0, none⟩), .pointer (some ⟨gc2_2, 0, none⟩), .pointer (some ⟨gc2_3, 0, none⟩)] (by rfl) rfl rfl (by first | rfl | (go_simp; done) | (go_simp; rfl)) (by (try simp only [List.map_toArray, List.map_cons, List.map_nil]); first | done | rfl | (go_simp; done) | (go_simp; rfl)) ?_
          with_reducible refine (raster_Put_1.calls x22_2 x18_1 gc2_0 a2_0 gc2_1 a2_1 gc2_2 a2_2 a2_3 A2_4 c2_4 l2_4 gc2_3 a2_5 a2_6 A2_7 c2_7 l2_7 t261 t262 t263 t264 _ ?side1 ?side2 ?side3 ?side4 ?side5 ?side6 ?side7 ?side8 A20.out).mono ?_
          (case side1 => exact zk0 BK252)
          (case side2 => exact zk0 BK253)
          (case side3 => exact zk0 BK254)
          (case side4 => repeat (first | exact (Kd.C_below HR2_4.out HB.out) | (with_reducible refine Kd.C_alloc ?_ _) | (with_reducible refine Kd.C_drewN ?_ _) | (with_reducible refine Kd.C_drew ?_)))
          (case side5 => exact HC2_4.out)
          (case side6 => exact zk0 BK255)
          (case side7 => repeat (first | exact (Kd.C_below HR2_7.out HB.out) | (with_reducible refine Kd.C_alloc ?_ _) | (with_reducible refine Kd.C_drewN ?_ _) | (with_reducible refine Kd.C_drew ?_)))
          (case side8 => exact HC2_7.out)
          rintro e w23 ⟨rfl, hb⟩
          refine ⟨_, rfl, ?_⟩
          replace HO_261002 := zr HO_261002 hb
          replace BK252 := zk BK252 hb
          replace BK253 := zk BK253 hb
          replace BK254 := zk BK254 hb
          replace BK255 := zk BK255 hb
          replace BK256 := zk BK256 hb
          replace BK260 := zk BK260 hb
          replace HB := zb HB hb
          (try clear hb)
          (try clear hb2)
          (try clear hk)
          (try clear hi)
          refine hK.out _ _ ⟨(blk_cell BK260.out 0).trans rfl, (blk_cell BK260.out 1).trans rfl, (blk_cell BK260.out 2).trans rfl⟩ (fun hHeld => ?_)
          clear hK K
          refine norm_ (a' := ?_) ?_ ?_
          rotate_left
          ·show Act.put _ (some 30) _ = _
           simp only [Act.put, sA, sB, sC, i64_w, i32_w]
           rfl
          refine one_ (i := 6) (N := some 31) (bs 10 127) rfl rfl (one_of HT_.out (by kernel_rfl)) (by decide) (fun K hK => ?_)
          refine value_ (w1 := ?_) (v := ?_) (by rfl) rfl ?_ ?_
          rotate_left 2
          ·go_simp
           constructor
           ·rfl
           ·rfl
          refine hK.out _ _ ⟨(blk_cell (blk_alloc BK260.out _) 0).trans rfl, (blk_cell (blk_alloc BK260.out _) 1).trans rfl, (blk_cell (blk_alloc BK260.out _) 2).trans rfl⟩ (fun hHeld => ?_)
          clear hK K
          refine norm_ (a' := ?_) ?_ ?_
          rotate_left
          ·show Act.put _ (some 31) _ = _
           simp only [Act.put, sA, sB, sC, i64_w, i32_w]
           rfl
          refine one_ (i := 7) (N := some 32) (bs 10 255) rfl rfl (one_of HT_.out (by kernel_rfl)) (by decide) (fun K hK => ?_)
          refine Kd.R_append_step k26 (w0 := w) w.heap.size (by rfl) (.tmp 26) (.tmp 31) 22 26 (.agg #[(.int .i64 0), (.int .i64 0), (.int .i64 0), (.int .i64 0)]) 32 rfl Try.underlying22 info26 rfl (by decide) (by omega) u261002 x261002_2 (⟨t261, t262, t263, t264⟩ : S26) [.int .i64 t261, .int .i64 t262, .int .i64 t263, .int .i64 t264] (fun _ => True) (fun _ => False) rfl rfl ?aP (fun _ hk => hk.elim) ?aF ?aO ?aB ?aS ?aL ?_
          (case aP => exact k26_mkM _ _ _ (⟨t261, t262, t263, t264⟩ : S26))
          (case aB => exact (by exact zb0 HB))
          (case aF => exact (fun _ _ => trivial))
          (case aO => exact (by exact zr0 HO_261002))
          (case aS => exact (below_size (by exact zb0 HB)))
          (case aL => have := LMc21.out; omega)
          intro v266 w24 ho hb hg hat
          rw [← Ny265.out] at ho
          have n0_ := Aside0.mk (blk_grown (zk0 BK252) hg (fun e_ => Nat.not_le.2 GL252.out (Kd.R_base HO_261002.out _ e_.symm)))
          have n1_ := Aside0.mk (blk_grown (zk0 BK253) hg (fun e_ => Nat.not_le.2 GL253.out (Kd.R_base HO_261002.out _ e_.symm)))
          have n2_ := Aside0.mk (blk_grown (zk0 BK254) hg (fun e_ => Nat.not_le.2 GL254.out (Kd.R_base HO_261002.out _ e_.symm)))
          have n3_ := Aside0.mk (blk_grown (zk0 BK255) hg (fun e_ => Nat.not_le.2 GL255.out (Kd.R_base HO_261002.out _ e_.symm)))
          have n4_ := Aside0.mk (blk_grown (zk0 BK256) hg (Kd.R_ne HO_261002.out BK256.out (by decide)))
          have n5_ := Aside0.mk (blk_grown (zk0 BK260) hg (Kd.R_ne HO_261002.out BK260.out (by decide)))
          have n6_ := Aside0.mk (hb)
          have n7_ := Aside0.mk (ho)
          clear BK252
          clear BK253
          clear BK254
          clear BK255
          clear BK256
          clear BK260
          clear HB
          clear HO_261002
          have BK252 := n0_
          have BK253 := n1_
          have BK254 := n2_
          have BK255 := n3_
          have BK256 := n4_
          have BK260 := n5_
          have HB := n6_
          have HO267 := n7_
          clear n0_ n1_ n2_ n3_ n4_ n5_ n6_ n7_
          clear ho hb hg hat
          obtain ⟨Ao25, co25, eo25⟩ := Kd.R_slice HO267.out
          (first | subst eo25 | (injection eo25 with f1_ f2_ f3_; have f4_ := f1_.symm; have f5_ := f3_.symm; clear f1_ f2_ f3_; subst f4_; subst f5_))
          refine hK.out _ _ ⟨(blk_cell BK260.out 0).trans rfl, (blk_cell BK260.out 1).trans rfl, (blk_cell BK260.out 2).trans rfl⟩ (fun hHeld => ?_)
          clear hK K
          refine norm_ (a' := ?_) ?_ ?_
          rotate_left
          ·show Act.put _ (some 32) _ = _
           simp only [Act.put, sA, sB, sC, i64_w, i32_w]
           rfl
          refine pure_ (i := 8) (N := some 33) (v := ?_) (a' := ?_) (bs 10 511) rfl rfl (any_of HT_.out (by kernel_rfl)) (fun _ _ _ h => h) (Or.inl ⟨by rfl, ?_⟩) ?_ ?_
          rotate_left
          ·intro w'
           go_simp
           with_reducible rfl
          rotate_left
          ·simp only [Act.put, sA, sB, sC, i64_w, i32_w]
           rfl
          refine last_ (i := 9) (N := none) (bs 10 1023) rfl rfl (one_of HT_.out (by kernel_rfl)) (by decide) (fun K hK => ?_)
          have hs26 : w24.cell? ⟨gb260, 2, none⟩ = some (u261002) := (blk_cell BK260.out 2).trans rfl
          have hfs26 := blk_frozen BK260.out 2
          have hns26_0 := NB252_260.out
          have hns26_1 := NB253_260.out
          have hns26_2 := NB254_260.out
          have hns26_3 := NB255_260.out
          have hns26_4 := NB256_260.out
          have hms26_0 := NB260_252.out
          have hms26_1 := NB260_253.out
          have hms26_2 := NB260_254.out
          have hms26_3 := NB260_255.out
          have hms26_4 := NB260_256.out
          refine skip_ (w1 := ?_) (by rfl) rfl ?_ ?_
          rotate_left
          ·go_simp
           rfl
          refine hK.out _ _ ?_
          clear hK K
          refine done_ (done_of HT_.out (by kernel_rfl)) ?_
          try go_wp2
          first | go_roundg k2 | ((try subst hji4); go_roundg k2)
          case measure => have := HK1.out; have := HK2.out; omega
          case rel => first | (exact ⟨(wrap64 (x22_2 + 1)), (y265), (.slice Ao25 y265.length co25), (by first | rfl | (simp; done) | (simp [*]; done)), H', ⟨by have := HK1.out; have := HK2.out; omega⟩, ⟨by exact zro HO267 BK260 (by decide)⟩, ⟨by exact zf BK252 NB252_260⟩, ⟨by exact zf BK253 NB253_260⟩, ⟨by exact zf BK254 NB254_260⟩, ⟨by exact zf BK255 NB255_260⟩, ⟨by exact zf BK256 NB256_260⟩, ⟨by exact zp BK260 rfl⟩, ⟨by exact zbo HB GE260⟩⟩) | (exact ⟨(wrap64 (x22_2 + 1)), (y265), (.slice Ao25 y265.length co25), (by first | rfl | (simp; done) | (simp [*]; done)), H', ⟨by have := HK1.out; have := HK2.out; omega⟩, ⟨by exact zro HO267 BK260 (by decide)⟩, ⟨by exact zf BK252 NB252_260⟩, ⟨by exact zf BK253 NB253_260⟩, ⟨by exact zf BK254 NB254_260⟩, ⟨by exact zf BK255 NB255_260⟩, ⟨by exact zf BK256 NB256_260⟩, ⟨by exact zp BK260 rfl⟩, ⟨by exact zbo HB GE260⟩⟩)
         ·rw [if_neg c21] at H
          exact absurd H (by simp)
        ·rw [if_neg c19] at H
         have c19b0 : decide (x22_2 < a0) = false := decide_eq_false c19
         clear c19
         have H' := Aside0.mk H
         clear H
         go_wp2
         first | go_roundg k2 | ((try subst hji4); go_roundg k2)
         case measure => have := HK1.out; have := HK2.out; omega
         case rel => first | (exact ⟨(wrap64 (x18_1 + 1)), (x261002_2), (u261002), (by first | rfl | (simp; done) | (simp [*]; done)), H', ⟨by have := HK1.out; have := HK2.out; omega⟩, ⟨by exact zr0 HO_261002⟩, ⟨by exact zk0 BK252⟩, ⟨by exact zk0 BK253⟩, ⟨by exact zk0 BK254⟩, ⟨by exact zk0 BK255⟩, ⟨by exact zk0 BK256⟩, ⟨by exact zk0 BK260⟩, ⟨by exact zb0 HB⟩⟩) | (exact ⟨(wrap64 (x18_1 + 1)), (x261002_2), (u261002), (by first | rfl | (simp; done) | (simp [*]; done)), H', ⟨by have := HK1.out; have := HK2.out; omega⟩, ⟨by exact zr0 HO_261002⟩, ⟨by exact zk0 BK252⟩, ⟨by exact zk0 BK253⟩, ⟨by exact zk0 BK254⟩, ⟨by exact zk0 BK255⟩, ⟨by exact zk0 BK256⟩, ⟨by exact zk0 BK260⟩, ⟨by exact zb0 HB⟩⟩)
     ·rw [if_neg c18] at H
      have c18b0 : decide (x18_1 < a1) = false := decide_eq_false c18
      clear c18
      simp only [Option.some.injEq, Prod.mk.injEq] at H
      obtain ⟨rfl, rfl, rfl⟩ := H
      have hnb27 := NB260_252.out
      have hnc27 := NB252_260.out
      have hnb28 := NB260_253.out
      have hnc28 := NB253_260.out
      have hnb29 := NB260_254.out
      have hnc29 := NB254_260.out
      have hnb30 := NB260_255.out
      have hnc30 := NB255_260.out
      have hnb31 := NB260_256.out
      have hnc31 := NB256_260.out
      obtain ⟨hcz32_0, hcz32_1, hcz32_2, hfz32_0, hfz32_1, hfz32_2⟩ := zq3 BK260
      have hnb33 := NB256_252.out
      have hnc33 := NB252_256.out
      have hnb34 := NB256_253.out
      have hnc34 := NB253_256.out
      have hnb35 := NB256_254.out
      have hnc35 := NB254_256.out
      have hnb36 := NB256_255.out
      have hnc36 := NB255_256.out
      obtain ⟨hcz37_0, hcz37_1, hcz37_2, hfz37_0, hfz37_1, hfz37_2⟩ := zq3 BK256
      obtain ⟨Ao38, co38, eo38⟩ := Kd.R_slice HO_261002.out
      subst eo38
      go_wp2
      refine bodyPost_ret (results_cell_row rfl _ _ gb256 24 #[.int .i64 a0, .int .i64 a1, .slice Ao38 x261002_1.length co38] (0, 0) _ rfl (by exact zp BK256 rfl) Try.underlying24 rfl (by kernel_rfl)) rfl ?_
      exact ⟨_, by first | rfl | (simp [errW_none, errW_some] <;> rfl) | (simp only [← hji4]; first | rfl | (simp [errW_none, errW_some] <;> rfl)) | (simp [*, errW_none, errW_some] <;> rfl), by exact zro HO_261002 BK256 (by decide), by exact zbo HB GE256⟩
  ·rw [if_neg c6] at H
   exact absurd H (by simp)
 ·rw [if_neg c5] at H
  exact absurd H (by simp)

/-! ### raster_Put: function 29 -/
def raster_Put.f (k : Nat) (a0_0 : Int) (a0_1 : Int) (l0_2 : List (S26)) (a1_0 : Int) (a1_1 : Int) (l1_2 : List (S26)) (a2_0 : Int) (a2_1 : Int) : Option (Int × Int × (List (S26)) × Int) := (raster_Check.f k a0_0 a0_1 l0_2).bind fun t272 => (if t272 = 0 then ((raster_Check.f k a1_0 a1_1 l1_2).bind fun t273 => (if t273 = 0 then ((raster_fill__raster_Put_1.f k a0_0 a0_1 (mn (mx a2_0 (-1048576)) 1048576) (mn (mx a2_1 (-1048576)) 1048576) a1_0 a1_1 l1_2 a0_0 a0_1 l0_2).bind fun bt276 => (some (bt276.1, bt276.2.1, bt276.2.2, 0))) else (some (0, 0, ([] : List (S26)), t273)))) else (some (0, 0, ([] : List (S26)), t272)))
theorem raster_Put.mono : ∀ a0 a1 a2 a3 a4 a5 a6 a7 k, LeO (raster_Put.f k a0 a1 a2 a3 a4 a5 a6 a7) (raster_Put.f (k + 1) a0 a1 a2 a3 a4 a5 a6 a7) := by
 intro a0 a1 a2 a3 a4 a5 a6 a7 k
 unfold raster_Put.f
 repeat' first
   | (with_reducible exact raster_Check.mono _ _ _ _)
   | (with_reducible exact raster_fill__raster_Put_1.mono _ _ _ _ _ _ _ _ _ _ _)
   | (with_reducible exact LeO.refl _)
   | (with_reducible exact LeO.none _)
   | (with_reducible refine LeO.ite ?_ ?_)
   | (with_reducible refine LeO.bind ?_ (fun _ => ?_))
   | exact raster_Check.mono _ _ _ _
   | exact raster_fill__raster_Put_1.mono _ _ _ _ _ _ _ _ _ _ _
   | exact LeO.none _
   | refine LeO.ite ?_ ?_
   | refine LeO.bind ?_ (fun _ => ?_)
set_option maxHeartbeats 8000000 in
set_option maxRecDepth 100000 in
theorem raster_Put.calls (k : Nat) (a0_0 : Int) (a0_1 : Int) (A0_2 : Option Addr) (c0_2 : Nat) (l0_2 : List (S26)) (a1_0 : Int) (a1_1 : Int) (A1_2 : Option Addr) (c1_2 : Nat) (l1_2 : List (S26)) (a2_0 : Int) (a2_1 : Int) (r1 : Int) (r2 : Int) (r3 : List (S26)) (r4 : Int) (w : World) (hr0_2 : Kd.C k26 w A0_2 l0_2.length l0_2) (hc0_2 : l0_2.length ≤ c0_2) (hr1_2 : Kd.C k26 w A1_2 l1_2.length l1_2) (hc1_2 : l1_2.length ≤ c1_2) (h : raster_Put.f k a0_0 a0_1 l0_2 a1_0 a1_1 l1_2 a2_0 a2_1 = some (r1, r2, r3, r4)) :
  Calls Try.prog 29 #[.agg #[.int .i64 a0_0, .int .i64 a0_1, .slice A0_2 l0_2.length c0_2], .agg #[.int .i64 a1_0, .int .i64 a1_1, .slice A1_2 l1_2.length c1_2], .agg #[.int .i64 a2_0, .int .i64 a2_1]] w fun e w' => ∃ v2_ : Value, e = .returned (.tuple #[.agg #[.int .i64 r1, .int .i64 r2, v2_], .int .i64 r4]) ∧ Kd.R k26 26 w' w.heap.size (fun _ => True) v2_ r3 ∧ Below w.heap.size w w' := by
 have hu24 := Try.underlying24
 have hu41 := Try.underlying41
 have HR0_2 := Aside0.mk hr0_2
 have HC0_2 := Aside0.mk hc0_2
 clear hr0_2 hc0_2
 have HR1_2 := Aside0.mk hr1_2
 have HC1_2 := Aside0.mk hc1_2
 clear hr1_2 hc1_2
 have HB := Aside0.mk (Below.refl w.heap.size w)
 have H : ((raster_Check.f k a0_0 a0_1 l0_2).bind fun t272 => (if t272 = 0 then ((raster_Check.f k a1_0 a1_1 l1_2).bind fun t273 => (if t273 = 0 then ((raster_fill__raster_Put_1.f k a0_0 a0_1 (mn (mx a2_0 (-1048576)) 1048576) (mn (mx a2_1 (-1048576)) 1048576) a1_0 a1_1 l1_2 a0_0 a0_1 l0_2).bind fun bt276 => (some (bt276.1, bt276.2.1, bt276.2.2, 0))) else (some (0, 0, ([] : List (S26)), t273)))) else (some (0, 0, ([] : List (S26)), t272)))) = some (r1, r2, r3, r4) := h
 clear h
 replace H := Option.bind_eq_some_iff.mp H
 obtain ⟨t272, A40, H⟩ := H
 replace H : (if t272 = 0 then ((raster_Check.f k a1_0 a1_1 l1_2).bind fun t273 => (if t273 = 0 then ((raster_fill__raster_Put_1.f k a0_0 a0_1 (mn (mx a2_0 (-1048576)) 1048576) (mn (mx a2_1 (-1048576)) 1048576) a1_0 a1_1 l1_2 a0_0 a0_1 l0_2).bind fun bt276 => (some (bt276.1, bt276.2.1, bt276.2.2, 0))) else (some (0, 0, ([] : List (S26)), t273)))) else (some (0, 0, ([] : List (S26)), t272))) = some (r1, r2, r3, r4) := H
 have A4 := Aside0.mk A40
 clear A40
 by_cases c5 : t272 = 0
 ·rw [if_pos c5] at H
  have c5b0 : (t272 == 0) = true := beq_iff_eq.mpr c5
  have c5b1 : (t272 != 0) = false := bne_eq_false_iff_eq.mpr c5
  clear c5
  replace H := Option.bind_eq_some_iff.mp H
  obtain ⟨t273, A60, H⟩ := H
  replace H : (if t273 = 0 then ((raster_fill__raster_Put_1.f k a0_0 a0_1 (mn (mx a2_0 (-1048576)) 1048576) (mn (mx a2_1 (-1048576)) 1048576) a1_0 a1_1 l1_2 a0_0 a0_1 l0_2).bind fun bt276 => (some (bt276.1, bt276.2.1, bt276.2.2, 0))) else (some (0, 0, ([] : List (S26)), t273))) = some (r1, r2, r3, r4) := H
  have A6 := Aside0.mk A60
  clear A60
  by_cases c7 : t273 = 0
  ·rw [if_pos c7] at H
   have c7b0 : (t273 == 0) = true := beq_iff_eq.mpr c7
   have c7b1 : (t273 != 0) = false := bne_eq_false_iff_eq.mpr c7
   clear c7
   obtain ⟨ji8, hji8⟩ : ∃ j_ : Int, (mx a2_0 (-1048576)) = j_ := ⟨_, rfl⟩
   replace H : ((raster_fill__raster_Put_1.f k a0_0 a0_1 (mn (ji8) 1048576) (mn (mx a2_1 (-1048576)) 1048576) a1_0 a1_1 l1_2 a0_0 a0_1 l0_2).bind fun bt276 => (some (bt276.1, bt276.2.1, bt276.2.2, 0))) = some (r1, r2, r3, r4) := by first | (rw [hji8] at H; exact H) | (simp only [hji8] at H ⊢; exact H)
   (try rw [hji8] at A4)
   (try rw [hji8] at A6)
   have hji8_ : (if a2_0 < (-1048576) then (-1048576) else a2_0) = ji8 := hji8
   obtain ⟨ji9, hji9⟩ : ∃ j_ : Int, (mn (ji8) 1048576) = j_ := ⟨_, rfl⟩
   replace H : ((raster_fill__raster_Put_1.f k a0_0 a0_1 (ji9) (mn (mx a2_1 (-1048576)) 1048576) a1_0 a1_1 l1_2 a0_0 a0_1 l0_2).bind fun bt276 => (some (bt276.1, bt276.2.1, bt276.2.2, 0))) = some (r1, r2, r3, r4) := by first | (rw [hji9] at H; exact H) | (simp only [hji9] at H ⊢; exact H)
   (try rw [hji9] at A4)
   (try rw [hji9] at A6)
   have hji9_ : (if 1048576 < (ji8) then 1048576 else (ji8)) = ji9 := hji9
   obtain ⟨ji10, hji10⟩ : ∃ j_ : Int, (mx a2_1 (-1048576)) = j_ := ⟨_, rfl⟩
   replace H : ((raster_fill__raster_Put_1.f k a0_0 a0_1 (ji9) (mn (ji10) 1048576) a1_0 a1_1 l1_2 a0_0 a0_1 l0_2).bind fun bt276 => (some (bt276.1, bt276.2.1, bt276.2.2, 0))) = some (r1, r2, r3, r4) := by first | (rw [hji10] at H; exact H) | (simp only [hji10] at H ⊢; exact H)
   (try rw [hji10] at A4)
   (try rw [hji10] at A6)
   have hji10_ : (if a2_1 < (-1048576) then (-1048576) else a2_1) = ji10 := hji10
   obtain ⟨ji11, hji11⟩ : ∃ j_ : Int, (mn (ji10) 1048576) = j_ := ⟨_, rfl⟩
   replace H : ((raster_fill__raster_Put_1.f k a0_0 a0_1 (ji9) (ji11) a1_0 a1_1 l1_2 a0_0 a0_1 l0_2).bind fun bt276 => (some (bt276.1, bt276.2.1, bt276.2.2, 0))) = some (r1, r2, r3, r4) := by first | (rw [hji11] at H; exact H) | (simp only [hji11] at H ⊢; exact H)
   (try rw [hji11] at A4)
   (try rw [hji11] at A6)
   have hji11_ : (if 1048576 < (ji10) then 1048576 else (ji10)) = ji11 := hji11
   replace H := Option.bind_eq_some_iff.mp H
   obtain ⟨⟨t276, t277, t278⟩, A120, H⟩ := H
   replace H : (some (t276, t277, t278, 0)) = some (r1, r2, r3, r4) := H
   have A12 := Aside0.mk A120
   clear A120
   simp only [Option.some.injEq, Prod.mk.injEq] at H
   obtain ⟨rfl, rfl, rfl, rfl⟩ := H
   go_enter Try.func29, Try.ntmps29
   go_wp2_with (first | ((with_reducible refine gate_dst (N := 3) rfl ?_); refine box_event ?hg (N := 3) ?hd (cs := #[.int .i64 a0_0, .int .i64 a0_1, .slice A0_2 l0_2.length c0_2]) (t := 24) ?hr ?_; (case hd => rfl); (case hg => rfl); (case hr => first | (go_simp; done) | (go_simp; rfl)); intro gb268 hg w13 hbox hb; have GW268 := zg HB hg; have GE268 := zg HB hg; have n0_ := Aside0.mk (hbox); replace HB := zb HB hb; have BK268 := n0_; clear n0_; clear hb hbox hg) | ((with_reducible refine gate_dst (N := 4) rfl ?_); refine box_event ?hg (N := 4) ?hd (cs := #[.int .i64 a1_0, .int .i64 a1_1, .slice A1_2 l1_2.length c1_2]) (t := 24) ?hr ?_; (case hd => rfl); (case hg => rfl); (case hr => first | (go_simp; done) | (go_simp; rfl)); intro gb269 hg w14 hbox hb; have GW269 := zg HB hg; have GE269 := zg HB hg; have NB268_269 := zn BK268 hg; have NB269_268 := zn' BK268 hg; have n0_ := Aside0.mk (hbox); replace BK268 := zk BK268 hb; replace HB := zb HB hb; have BK269 := n0_; clear n0_; clear hb hbox hg) | ((with_reducible refine gate_dst (N := 5) rfl ?_); refine box_event ?hg (N := 5) ?hd (cs := #[.int .i64 a2_0, .int .i64 a2_1]) (t := 41) ?hr ?_; (case hd => rfl); (case hg => rfl); (case hr => first | (go_simp; done) | (go_simp; rfl)); intro gb270 hg w15 hbox hb; have GW270 := zg HB hg; have GE270 := zg HB hg; have NB268_270 := zn BK268 hg; have NB270_268 := zn' BK268 hg; have NB269_270 := zn BK269 hg; have NB270_269 := zn' BK269 hg; have n0_ := Aside0.mk (hbox); replace BK268 := zk BK268 hb; replace BK269 := zk BK269 hb; replace HB := zb HB hb; have BK270 := n0_; clear n0_; clear hb hbox hg) | ((with_reducible refine gate_dst (N := 6) rfl ?_); refine box_event ?hg (N := 6) ?hd (cs := #[.int .i64 0, .int .i64 0, .slice none 0 0]) (t := 24) ?hr ?_; (case hd => rfl); (case hg => rfl); (case hr => first | (go_simp; done) | (go_simp; rfl)); intro gb271 hg w16 hbox hb; have GW271 := zg HB hg; have GE271 := zg HB hg; have NB268_271 := zn BK268 hg; have NB271_268 := zn' BK268 hg; have NB269_271 := zn BK269 hg; have NB271_269 := zn' BK269 hg; have NB270_271 := zn BK270 hg; have NB271_270 := zn' BK270 hg; have n0_ := Aside0.mk (hbox); replace BK268 := zk BK268 hb; replace BK269 := zk BK269 hb; replace BK270 := zk BK270 hb; replace HB := zb HB hb; have BK271 := n0_; clear n0_; clear hb hbox hg; have hnb17 := NB268_269.out; have hnc17 := NB269_268.out; have hnb18 := NB268_270.out; have hnc18 := NB270_268.out; have hnb19 := NB268_271.out; have hnc19 := NB271_268.out; obtain ⟨hcz20_0, hcz20_1, hcz20_2, hfz20_0, hfz20_1, hfz20_2⟩ := zq3 BK268) | ((with_reducible refine gate_callee (f := 18) rfl ?_); refine goesL_ (some 13) rfl rfl Try.func18 (by kernel_rfl) rfl #[.agg #[.int .i64 a0_0, .int .i64 a0_1, .slice A0_2 l0_2.length c0_2]] rfl (by (try simp only [List.map_toArray, List.map_cons, List.map_nil]); first | done | rfl | (simp only [List.length_drop, List.length_take]; rfl)) ?_; (with_reducible refine (raster_Check.calls k a0_0 a0_1 _ _ l0_2 t272 _ ?side1 ?side2 A4.out).mono ?_); (case side1 => repeat (first | exact (Kd.C_below HR0_2.out HB.out) | (with_reducible refine Kd.C_alloc ?_ _) | (with_reducible refine Kd.C_drewN ?_ _) | (with_reducible refine Kd.C_drew ?_))); (case side2 => exact HC0_2.out); rintro e w21 ⟨rfl, hb⟩; refine ⟨_, rfl, ?_⟩; replace BK268 := zk BK268 hb; replace BK269 := zk BK269 hb; replace BK270 := zk BK270 hb; replace BK271 := zk BK271 hb; replace HB := zb HB hb; (try clear hb); (try clear hb2); (try clear hk); (try clear hi); have hnb22 := NB269_270.out; have hnc22 := NB270_269.out; have hnb23 := NB269_271.out; have hnc23 := NB271_269.out; obtain ⟨hcz24_0, hcz24_1, hcz24_2, hfz24_0, hfz24_1, hfz24_2⟩ := zq3 BK269) | ((with_reducible refine gate_callee (f := 18) rfl ?_); refine goesL_ (some 19) rfl rfl Try.func18 (by kernel_rfl) rfl #[.agg #[.int .i64 a1_0, .int .i64 a1_1, .slice A1_2 l1_2.length c1_2]] rfl (by (try simp only [List.map_toArray, List.map_cons, List.map_nil]); first | done | rfl | (simp only [List.length_drop, List.length_take]; rfl)) ?_; (with_reducible refine (raster_Check.calls k a1_0 a1_1 _ _ l1_2 t273 _ ?side1 ?side2 A6.out).mono ?_); (case side1 => repeat (first | exact (Kd.C_below HR1_2.out HB.out) | (with_reducible refine Kd.C_alloc ?_ _) | (with_reducible refine Kd.C_drewN ?_ _) | (with_reducible refine Kd.C_drew ?_))); (case side2 => exact HC1_2.out); rintro e w25 ⟨rfl, hb⟩; refine ⟨_, rfl, ?_⟩; replace BK268 := zk BK268 hb; replace BK269 := zk BK269 hb; replace BK270 := zk BK270 hb; replace BK271 := zk BK271 hb; replace HB := zb HB hb; (try clear hb); (try clear hb2); (try clear hk); (try clear hi); have hnb26 := NB270_271.out; have hnc26 := NB271_270.out; obtain ⟨hcz27_0, hcz27_1, hfz27_0, hfz27_1⟩ := zq2 BK270) | ((with_reducible refine gate_dst (N := 10) rfl ?_); refine box_event ?hg (N := 10) ?hd (cs := #[.int .i64 0]) (t := 3) ?hr ?_; (case hd => rfl); (case hg => rfl); (case hr => first | (go_simp; done) | (go_simp; rfl)); intro gb274 hg w28 hbox hb; have GW274 := zg HB hg; have GE274 := zg HB hg; have NB268_274 := zn BK268 hg; have NB274_268 := zn' BK268 hg; have NB269_274 := zn BK269 hg; have NB274_269 := zn' BK269 hg; have NB270_274 := zn BK270 hg; have NB274_270 := zn' BK270 hg; have NB271_274 := zn BK271 hg; have NB274_271 := zn' BK271 hg; have n0_ := Aside0.mk (hbox); replace BK268 := zk BK268 hb; replace BK269 := zk BK269 hb; replace BK270 := zk BK270 hb; replace BK271 := zk BK271 hb; replace HB := zb HB hb; have BK274 := n0_; clear n0_; clear hb hbox hg; have hnb29 := NB274_268.out; have hnc29 := NB268_274.out; have hnb30 := NB274_269.out; have hnc30 := NB269_274.out; have hnb31 := NB274_270.out; have hnc31 := NB270_274.out; have hnb32 := NB274_271.out; have hnc32 := NB271_274.out; obtain ⟨hcz33_0, hfz33_0⟩ := zq1 BK274; obtain ⟨hcz34_0, hcz34_1, hfz34_0, hfz34_1⟩ := zq2 BK270) | ((with_reducible refine gate_dst (N := 11) rfl ?_); refine box_event ?hg (N := 11) ?hd (cs := #[.int .i64 0]) (t := 3) ?hr ?_; (case hd => rfl); (case hg => rfl); (case hr => first | (go_simp; done) | (go_simp; rfl)); intro gb275 hg w35 hbox hb; have n0_ := Aside0.mk (blk_below (g := gb274) (o := .cells #[.int .i64 ji9] 3 (0, 0)) (by exact zp BK274 rfl) hb); have n1_ := Aside0.mk (below_step (by exact zbo HB GE274) hb); have n2_ := Aside0.mk (hbox); have n3_ := Aside0.mk ((by rw [hg]; exact (below_size (by exact zbo HB GE274)) : w.heap.size ≤ gb275)); have n4_ := Aside0.mk ((by rw [hg]; exact (below_size (by exact zbo HB GE274)) : w.heap.size ≤ gb275)); have n5_ := Aside0.mk ((by rw [hg]; exact Nat.ne_of_lt (blk_lt (zf BK268 NB268_274)) : gb268 ≠ gb275)); have n6_ := Aside0.mk ((by rw [hg]; exact Nat.ne_of_gt (blk_lt (zf BK268 NB268_274)) : gb275 ≠ gb268)); have n7_ := Aside0.mk ((by rw [hg]; exact Nat.ne_of_lt (blk_lt (zf BK269 NB269_274)) : gb269 ≠ gb275)); have n8_ := Aside0.mk ((by rw [hg]; exact Nat.ne_of_gt (blk_lt (zf BK269 NB269_274)) : gb275 ≠ gb269)); have n9_ := Aside0.mk ((by rw [hg]; exact Nat.ne_of_lt (blk_lt (zf BK270 NB270_274)) : gb270 ≠ gb275)); have n10_ := Aside0.mk ((by rw [hg]; exact Nat.ne_of_gt (blk_lt (zf BK270 NB270_274)) : gb275 ≠ gb270)); have n11_ := Aside0.mk ((by rw [hg]; exact Nat.ne_of_lt (blk_lt (zf BK271 NB271_274)) : gb271 ≠ gb275)); have n12_ := Aside0.mk ((by rw [hg]; exact Nat.ne_of_gt (blk_lt (zf BK271 NB271_274)) : gb275 ≠ gb271)); have n13_ := Aside0.mk ((by rw [hg]; exact Nat.ne_of_lt (blk_lt (g := gb274) (o := .cells #[.int .i64 ji9] 3 (0, 0)) (by exact zp BK274 rfl)) : gb274 ≠ gb275)); have n14_ := Aside0.mk ((by rw [hg]; exact Nat.ne_of_gt (blk_lt (g := gb274) (o := .cells #[.int .i64 ji9] 3 (0, 0)) (by exact zp BK274 rfl)) : gb275 ≠ gb274)); replace BK268 := zfk BK268 NB268_274 hb; replace BK269 := zfk BK269 NB269_274 hb; replace BK270 := zfk BK270 NB270_274 hb; replace BK271 := zfk BK271 NB271_274 hb; clear BK274; clear HB; have BK274 := n0_; have HB := n1_; have BK275 := n2_; have GW275 := n3_; have GE275 := n4_; have NB268_275 := n5_; have NB275_268 := n6_; have NB269_275 := n7_; have NB275_269 := n8_; have NB270_275 := n9_; have NB275_270 := n10_; have NB271_275 := n11_; have NB275_271 := n12_; have NB274_275 := n13_; have NB275_274 := n14_; clear n0_ n1_ n2_ n3_ n4_ n5_ n6_ n7_ n8_ n9_ n10_ n11_ n12_ n13_ n14_; clear hb hbox hg; have hnb36 := NB275_268.out; have hnc36 := NB268_275.out; have hnb37 := NB275_269.out; have hnc37 := NB269_275.out; have hnb38 := NB275_270.out; have hnc38 := NB270_275.out; have hnb39 := NB275_271.out; have hnc39 := NB271_275.out; have hnb40 := NB275_274.out; have hnc40 := NB274_275.out; obtain ⟨hcz41_0, hfz41_0⟩ := zq1 BK275; obtain ⟨hcz42_0, hcz42_1, hcz42_2, hfz42_0, hfz42_1, hfz42_2⟩ := zq3 BK268) | ((with_reducible refine gate_callee (f := 40) rfl ?_); refine goesL_ (some 37) rfl rfl Try.func40 (by kernel_rfl) rfl #[.int .i64 a0_0, .int .i64 a0_1, .func (.func 50) #[] #[.pointer (some ⟨gb274, 0, none⟩), .pointer (some ⟨gb275, 0, none⟩), .pointer (some ⟨gb269, 0, none⟩), .pointer (some ⟨gb268, 0, none⟩)]] rfl (by (try simp only [List.map_toArray, List.map_cons, List.map_nil]); first | done | rfl | (simp only [List.length_drop, List.length_take]; rfl)) ?_; (with_reducible refine (raster_fill__raster_Put_1.calls k a0_0 a0_1 gb274 gb275 gb269 gb268 ji9 ji11 a1_0 a1_1 A1_2 c1_2 l1_2 a0_0 a0_1 A0_2 c0_2 l0_2 t276 t277 t278 _ ?side1 ?side2 ?side3 ?side4 ?side5 ?side6 ?side7 ?side8 A12.out).mono ?_); (case side1 => exact zf BK274 NB274_275); (case side2 => exact zp BK275 rfl); (case side3 => exact zf BK269 NB269_275); (case side4 => exact zf BK268 NB268_275); (case side5 => exact Kd.C_below HR1_2.out (by exact zbo HB GE275)); (case side6 => exact HC1_2.out); (case side7 => exact Kd.C_below HR0_2.out (by exact zbo HB GE275)); (case side8 => exact HC0_2.out); rintro e w43 ⟨v279, rfl, ho0, hb⟩; refine ⟨_, rfl, ?_⟩; have n0_ := Aside0.mk (Kd.R_lower ho0 (below_size (by exact zbo HB GE275))); have n1_ := Aside0.mk (blk_below (g := gb275) (o := .cells #[.int .i64 ji11] 3 (0, 0)) (by exact zp BK275 rfl) hb); have n2_ := Aside0.mk (below_step (by exact zbo HB GE275) hb); replace BK268 := zfk BK268 NB268_275 hb; replace BK269 := zfk BK269 NB269_275 hb; replace BK270 := zfk BK270 NB270_275 hb; replace BK271 := zfk BK271 NB271_275 hb; replace BK274 := zfk BK274 NB274_275 hb; clear BK275; clear HB; have HO280 := n0_; have BK275 := n1_; have HB := n2_; clear n0_ n1_ n2_; (try clear hb); (try clear hb2); (try clear hk); (try clear hi); (try clear ho0); obtain ⟨hcz44_0, hcz44_1, hcz44_2, hfz44_0, hfz44_1, hfz44_2⟩ := zq3 BK271; obtain ⟨Ao45, co45, eo45⟩ := Kd.R_slice HO280.out; subst eo45))
   refine bodyPost_ret (results_ct rfl _ _ gb271 24 #[.int .i64 t276, .int .i64 t277, .slice Ao45 t278.length co45] (0, 0) _ rfl (by exact zp BK271 rfl) Try.underlying24 rfl (by kernel_rfl)) rfl ?_
   exact ⟨_, by first | rfl | (simp [errW_none, errW_some] <;> rfl) | (simp only [← hji8, ← hji9, ← hji10, ← hji11]; first | rfl | (simp [errW_none, errW_some] <;> rfl)) | (simp [*, errW_none, errW_some] <;> rfl), by exact zro HO280 BK271 (by decide), by exact zbo HB GE271⟩
  ·rw [if_neg c7] at H
   have c7b0 : (t273 == 0) = false := beq_eq_false_iff_ne.mpr c7
   have c7b1 : (t273 != 0) = true := bne_iff_ne.mpr c7
   simp only [Option.some.injEq, Prod.mk.injEq] at H
   obtain ⟨rfl, rfl, rfl, rfl⟩ := H
   go_enter Try.func29, Try.ntmps29
   go_wp2_with (first | ((with_reducible refine gate_dst (N := 3) rfl ?_); refine box_event ?hg (N := 3) ?hd (cs := #[.int .i64 a0_0, .int .i64 a0_1, .slice A0_2 l0_2.length c0_2]) (t := 24) ?hr ?_; (case hd => rfl); (case hg => rfl); (case hr => first | (go_simp; done) | (go_simp; rfl)); intro gb268 hg w46 hbox hb; have GW268 := zg HB hg; have GE268 := zg HB hg; have n0_ := Aside0.mk (hbox); replace HB := zb HB hb; have BK268 := n0_; clear n0_; clear hb hbox hg) | ((with_reducible refine gate_dst (N := 4) rfl ?_); refine box_event ?hg (N := 4) ?hd (cs := #[.int .i64 a1_0, .int .i64 a1_1, .slice A1_2 l1_2.length c1_2]) (t := 24) ?hr ?_; (case hd => rfl); (case hg => rfl); (case hr => first | (go_simp; done) | (go_simp; rfl)); intro gb269 hg w47 hbox hb; have GW269 := zg HB hg; have GE269 := zg HB hg; have NB268_269 := zn BK268 hg; have NB269_268 := zn' BK268 hg; have n0_ := Aside0.mk (hbox); replace BK268 := zk BK268 hb; replace HB := zb HB hb; have BK269 := n0_; clear n0_; clear hb hbox hg) | ((with_reducible refine gate_dst (N := 5) rfl ?_); refine box_event ?hg (N := 5) ?hd (cs := #[.int .i64 a2_0, .int .i64 a2_1]) (t := 41) ?hr ?_; (case hd => rfl); (case hg => rfl); (case hr => first | (go_simp; done) | (go_simp; rfl)); intro gb270 hg w48 hbox hb; have GW270 := zg HB hg; have GE270 := zg HB hg; have NB268_270 := zn BK268 hg; have NB270_268 := zn' BK268 hg; have NB269_270 := zn BK269 hg; have NB270_269 := zn' BK269 hg; have n0_ := Aside0.mk (hbox); replace BK268 := zk BK268 hb; replace BK269 := zk BK269 hb; replace HB := zb HB hb; have BK270 := n0_; clear n0_; clear hb hbox hg) | ((with_reducible refine gate_dst (N := 6) rfl ?_); refine box_event ?hg (N := 6) ?hd (cs := #[.int .i64 0, .int .i64 0, .slice none 0 0]) (t := 24) ?hr ?_; (case hd => rfl); (case hg => rfl); (case hr => first | (go_simp; done) | (go_simp; rfl)); intro gb271 hg w49 hbox hb; have GW271 := zg HB hg; have GE271 := zg HB hg; have NB268_271 := zn BK268 hg; have NB271_268 := zn' BK268 hg; have NB269_271 := zn BK269 hg; have NB271_269 := zn' BK269 hg; have NB270_271 := zn BK270 hg; have NB271_270 := zn' BK270 hg; have n0_ := Aside0.mk (hbox); replace BK268 := zk BK268 hb; replace BK269 := zk BK269 hb; replace BK270 := zk BK270 hb; replace HB := zb HB hb; have BK271 := n0_; clear n0_; clear hb hbox hg; have hnb50 := NB268_269.out; have hnc50 := NB269_268.out; have hnb51 := NB268_270.out; have hnc51 := NB270_268.out; have hnb52 := NB268_271.out; have hnc52 := NB271_268.out; obtain ⟨hcz53_0, hcz53_1, hcz53_2, hfz53_0, hfz53_1, hfz53_2⟩ := zq3 BK268) | ((with_reducible refine gate_callee (f := 18) rfl ?_); refine goesL_ (some 13) rfl rfl Try.func18 (by kernel_rfl) rfl #[.agg #[.int .i64 a0_0, .int .i64 a0_1, .slice A0_2 l0_2.length c0_2]] rfl (by (try simp only [List.map_toArray, List.map_cons, List.map_nil]); first | done | rfl | (simp only [List.length_drop, List.length_take]; rfl)) ?_; (with_reducible refine (raster_Check.calls k a0_0 a0_1 _ _ l0_2 t272 _ ?side1 ?side2 A4.out).mono ?_); (case side1 => repeat (first | exact (Kd.C_below HR0_2.out HB.out) | (with_reducible refine Kd.C_alloc ?_ _) | (with_reducible refine Kd.C_drewN ?_ _) | (with_reducible refine Kd.C_drew ?_))); (case side2 => exact HC0_2.out); rintro e w54 ⟨rfl, hb⟩; refine ⟨_, rfl, ?_⟩; replace BK268 := zk BK268 hb; replace BK269 := zk BK269 hb; replace BK270 := zk BK270 hb; replace BK271 := zk BK271 hb; replace HB := zb HB hb; (try clear hb); (try clear hb2); (try clear hk); (try clear hi); have hnb55 := NB269_270.out; have hnc55 := NB270_269.out; have hnb56 := NB269_271.out; have hnc56 := NB271_269.out; obtain ⟨hcz57_0, hcz57_1, hcz57_2, hfz57_0, hfz57_1, hfz57_2⟩ := zq3 BK269) | ((with_reducible refine gate_callee (f := 18) rfl ?_); refine goesL_ (some 19) rfl rfl Try.func18 (by kernel_rfl) rfl #[.agg #[.int .i64 a1_0, .int .i64 a1_1, .slice A1_2 l1_2.length c1_2]] rfl (by (try simp only [List.map_toArray, List.map_cons, List.map_nil]); first | done | rfl | (simp only [List.length_drop, List.length_take]; rfl)) ?_; (with_reducible refine (raster_Check.calls k a1_0 a1_1 _ _ l1_2 t273 _ ?side1 ?side2 A6.out).mono ?_); (case side1 => repeat (first | exact (Kd.C_below HR1_2.out HB.out) | (with_reducible refine Kd.C_alloc ?_ _) | (with_reducible refine Kd.C_drewN ?_ _) | (with_reducible refine Kd.C_drew ?_))); (case side2 => exact HC1_2.out); rintro e w58 ⟨rfl, hb⟩; refine ⟨_, rfl, ?_⟩; replace BK268 := zk BK268 hb; replace BK269 := zk BK269 hb; replace BK270 := zk BK270 hb; replace BK271 := zk BK271 hb; replace HB := zb HB hb; (try clear hb); (try clear hb2); (try clear hk); (try clear hi); have hnb59 := NB271_270.out; have hnc59 := NB270_271.out; obtain ⟨hcz60_0, hcz60_1, hcz60_2, hfz60_0, hfz60_1, hfz60_2⟩ := zq3 BK271))
   refine bodyPost_ret (results_ct rfl _ _ gb271 24 #[.int .i64 0, .int .i64 0, .slice none 0 0] (0, 0) _ rfl (by exact zp BK271 rfl) Try.underlying24 rfl (by kernel_rfl)) rfl ?_
   exact ⟨_, by first | rfl | (simp [errW_none, errW_some] <;> rfl) | (simp [*, errW_none, errW_some] <;> rfl), by first | exact Kd.R_nil _ _ _ _ _ | exact Kd.N_nil _ _ _ _ _ | exact Kd.V_nil _ _ _ _ _ | exact Kd.Q_nil _ _ _ _ _ | exact Kd.S_nil _ _ _ _ _, by exact zbo HB GE271⟩
 ·rw [if_neg c5] at H
  have c5b0 : (t272 == 0) = false := beq_eq_false_iff_ne.mpr c5
  have c5b1 : (t272 != 0) = true := bne_iff_ne.mpr c5
  simp only [Option.some.injEq, Prod.mk.injEq] at H
  obtain ⟨rfl, rfl, rfl, rfl⟩ := H
  go_enter Try.func29, Try.ntmps29
  go_wp2_with (first | ((with_reducible refine gate_dst (N := 3) rfl ?_); refine box_event ?hg (N := 3) ?hd (cs := #[.int .i64 a0_0, .int .i64 a0_1, .slice A0_2 l0_2.length c0_2]) (t := 24) ?hr ?_; (case hd => rfl); (case hg => rfl); (case hr => first | (go_simp; done) | (go_simp; rfl)); intro gb268 hg w61 hbox hb; have GW268 := zg HB hg; have GE268 := zg HB hg; have n0_ := Aside0.mk (hbox); replace HB := zb HB hb; have BK268 := n0_; clear n0_; clear hb hbox hg) | ((with_reducible refine gate_dst (N := 4) rfl ?_); refine box_event ?hg (N := 4) ?hd (cs := #[.int .i64 a1_0, .int .i64 a1_1, .slice A1_2 l1_2.length c1_2]) (t := 24) ?hr ?_; (case hd => rfl); (case hg => rfl); (case hr => first | (go_simp; done) | (go_simp; rfl)); intro gb269 hg w62 hbox hb; have GW269 := zg HB hg; have GE269 := zg HB hg; have NB268_269 := zn BK268 hg; have NB269_268 := zn' BK268 hg; have n0_ := Aside0.mk (hbox); replace BK268 := zk BK268 hb; replace HB := zb HB hb; have BK269 := n0_; clear n0_; clear hb hbox hg) | ((with_reducible refine gate_dst (N := 5) rfl ?_); refine box_event ?hg (N := 5) ?hd (cs := #[.int .i64 a2_0, .int .i64 a2_1]) (t := 41) ?hr ?_; (case hd => rfl); (case hg => rfl); (case hr => first | (go_simp; done) | (go_simp; rfl)); intro gb270 hg w63 hbox hb; have GW270 := zg HB hg; have GE270 := zg HB hg; have NB268_270 := zn BK268 hg; have NB270_268 := zn' BK268 hg; have NB269_270 := zn BK269 hg; have NB270_269 := zn' BK269 hg; have n0_ := Aside0.mk (hbox); replace BK268 := zk BK268 hb; replace BK269 := zk BK269 hb; replace HB := zb HB hb; have BK270 := n0_; clear n0_; clear hb hbox hg) | ((with_reducible refine gate_dst (N := 6) rfl ?_); refine box_event ?hg (N := 6) ?hd (cs := #[.int .i64 0, .int .i64 0, .slice none 0 0]) (t := 24) ?hr ?_; (case hd => rfl); (case hg => rfl); (case hr => first | (go_simp; done) | (go_simp; rfl)); intro gb271 hg w64 hbox hb; have GW271 := zg HB hg; have GE271 := zg HB hg; have NB268_271 := zn BK268 hg; have NB271_268 := zn' BK268 hg; have NB269_271 := zn BK269 hg; have NB271_269 := zn' BK269 hg; have NB270_271 := zn BK270 hg; have NB271_270 := zn' BK270 hg; have n0_ := Aside0.mk (hbox); replace BK268 := zk BK268 hb; replace BK269 := zk BK269 hb; replace BK270 := zk BK270 hb; replace HB := zb HB hb; have BK271 := n0_; clear n0_; clear hb hbox hg; have hnb65 := NB268_269.out; have hnc65 := NB269_268.out; have hnb66 := NB268_270.out; have hnc66 := NB270_268.out; have hnb67 := NB268_271.out; have hnc67 := NB271_268.out; obtain ⟨hcz68_0, hcz68_1, hcz68_2, hfz68_0, hfz68_1, hfz68_2⟩ := zq3 BK268) | ((with_reducible refine gate_callee (f := 18) rfl ?_); refine goesL_ (some 13) rfl rfl Try.func18 (by kernel_rfl) rfl #[.agg #[.int .i64 a0_0, .int .i64 a0_1, .slice A0_2 l0_2.length c0_2]] rfl (by (try simp only [List.map_toArray, List.map_cons, List.map_nil]); first | done | rfl | (simp only [List.length_drop, List.length_take]; rfl)) ?_; (with_reducible refine (raster_Check.calls k a0_0 a0_1 _ _ l0_2 t272 _ ?side1 ?side2 A4.out).mono ?_); (case side1 => repeat (first | exact (Kd.C_below HR0_2.out HB.out) | (with_reducible refine Kd.C_alloc ?_ _) | (with_reducible refine Kd.C_drewN ?_ _) | (with_reducible refine Kd.C_drew ?_))); (case side2 => exact HC0_2.out); rintro e w69 ⟨rfl, hb⟩; refine ⟨_, rfl, ?_⟩; replace BK268 := zk BK268 hb; replace BK269 := zk BK269 hb; replace BK270 := zk BK270 hb; replace BK271 := zk BK271 hb; replace HB := zb HB hb; (try clear hb); (try clear hb2); (try clear hk); (try clear hi); have hnb70 := NB271_269.out; have hnc70 := NB269_271.out; have hnb71 := NB271_270.out; have hnc71 := NB270_271.out; obtain ⟨hcz72_0, hcz72_1, hcz72_2, hfz72_0, hfz72_1, hfz72_2⟩ := zq3 BK271))
  refine bodyPost_ret (results_ct rfl _ _ gb271 24 #[.int .i64 0, .int .i64 0, .slice none 0 0] (0, 0) _ rfl (by exact zp BK271 rfl) Try.underlying24 rfl (by kernel_rfl)) rfl ?_
  exact ⟨_, by first | rfl | (simp [errW_none, errW_some] <;> rfl) | (simp [*, errW_none, errW_some] <;> rfl), by first | exact Kd.R_nil _ _ _ _ _ | exact Kd.N_nil _ _ _ _ _ | exact Kd.V_nil _ _ _ _ _ | exact Kd.Q_nil _ _ _ _ _ | exact Kd.S_nil _ _ _ _ _, by exact zbo HB GE271⟩

/-! ### raster_Flip_1: function 51 -/
def raster_Flip_1.f (a0 : Int) (a1 : Int) (a2_0 : Int) (a2_1 : Int) (l2_2 : List (S26)) : Option (Int × Int × Int × Int) := (raster_get.f a2_0 a2_1 l2_2 (wrap64 ((wrap64 (a2_0 - 1)) - a0)) a1).bind fun bt283 => (some (bt283.1, bt283.2.1, bt283.2.2.1, bt283.2.2.2))
set_option maxHeartbeats 8000000 in
set_option maxRecDepth 100000 in
theorem raster_Flip_1.calls (a0 : Int) (a1 : Int) (gc2_0 : Nat) (a2_0 : Int) (a2_1 : Int) (A2_2 : Option Addr) (c2_2 : Nat) (l2_2 : List (S26)) (r1 : Int) (r2 : Int) (r3 : Int) (r4 : Int) (w : World) (hp2_0 : w.heap[gc2_0]? = some (.cells #[.int .i64 a2_0, .int .i64 a2_1, .slice A2_2 l2_2.length c2_2] 24 (0, 0))) (hr2_2 : Kd.C k26 w A2_2 l2_2.length l2_2) (hc2_2 : l2_2.length ≤ c2_2) (h : raster_Flip_1.f a0 a1 a2_0 a2_1 l2_2 = some (r1, r2, r3, r4)) :
  Calls Try.prog 51 #[.int .i64 a0, .int .i64 a1, .pointer (some ⟨gc2_0, 0, none⟩)] w fun e w' => e = .returned (.agg #[.int .i64 r1, .int .i64 r2, .int .i64 r3, .int .i64 r4]) ∧ Below w.heap.size w w' := by
 have hu26 := Try.underlying26
 have hu24 := Try.underlying24
 have HR2_2 := Aside0.mk hr2_2
 have HC2_2 := Aside0.mk hc2_2
 clear hr2_2 hc2_2
 have BK281 := Aside0.mk hp2_0
 have GL281 := Aside0.mk (show gc2_0 < w.heap.size from blk_lt hp2_0)
 clear hp2_0
 have HB := Aside0.mk (Below.refl w.heap.size w)
 have H : ((raster_get.f a2_0 a2_1 l2_2 (wrap64 ((wrap64 (a2_0 - 1)) - a0)) a1).bind fun bt283 => (some (bt283.1, bt283.2.1, bt283.2.2.1, bt283.2.2.2))) = some (r1, r2, r3, r4) := h
 clear h
 replace H := Option.bind_eq_some_iff.mp H
 obtain ⟨⟨t283, t284, t285, t286⟩, A40, H⟩ := H
 replace H : (some (t283, t284, t285, t286)) = some (r1, r2, r3, r4) := H
 have A4 := Aside0.mk A40
 clear A40
 simp only [Option.some.injEq, Prod.mk.injEq] at H
 obtain ⟨rfl, rfl, rfl, rfl⟩ := H
 go_enter Try.func51, Try.ntmps51
 go_wp2_with (first | ((with_reducible refine gate_dst (N := 5) rfl ?_); refine box_event ?hg (N := 5) ?hd (cs := #[.int .i64 0, .int .i64 0, .int .i64 0, .int .i64 0]) (t := 26) ?hr ?_; (case hd => rfl); (case hg => rfl); (case hr => first | (go_simp; done) | (go_simp; rfl)); intro gb282 hg w5 hbox hb; have GW282 := zg HB hg; have GE282 := zg HB hg; have NB281_282 := zn BK281 hg; have NB282_281 := zn' BK281 hg; have n0_ := Aside0.mk (hbox); replace BK281 := zk BK281 hb; replace HB := zb HB hb; have BK282 := n0_; clear n0_; clear hb hbox hg; have hnb6 := NB281_282.out; have hnc6 := NB282_281.out; obtain ⟨hcz7_0, hcz7_1, hcz7_2, hfz7_0, hfz7_1, hfz7_2⟩ := zq3 BK281) | ((with_reducible refine gate_callee (f := 43) rfl ?_); refine goesL_ (some 13) rfl rfl Try.func43 (by kernel_rfl) rfl #[.agg #[.int .i64 a2_0, .int .i64 a2_1, .slice A2_2 l2_2.length c2_2], .int .i64 (wrap64 ((wrap64 (a2_0 - 1)) - a0)), .int .i64 a1] rfl (by (try simp only [List.map_toArray, List.map_cons, List.map_nil]); first | done | rfl | (simp only [List.length_drop, List.length_take]; rfl)) ?_; (with_reducible refine (raster_get.calls a2_0 a2_1 _ _ l2_2 (wrap64 ((wrap64 (a2_0 - 1)) - a0)) a1 t283 t284 t285 t286 _ ?side1 ?side2 A4.out).mono ?_); (case side1 => repeat (first | exact (Kd.C_below HR2_2.out HB.out) | (with_reducible refine Kd.C_alloc ?_ _) | (with_reducible refine Kd.C_drewN ?_ _) | (with_reducible refine Kd.C_drew ?_))); (case side2 => exact HC2_2.out); rintro e w8 ⟨rfl, hb⟩; refine ⟨_, rfl, ?_⟩; replace BK281 := zk BK281 hb; replace BK282 := zk BK282 hb; replace HB := zb HB hb; (try clear hb); (try clear hb2); (try clear hk); (try clear hi); obtain ⟨hcz9_0, hcz9_1, hcz9_2, hcz9_3, hfz9_0, hfz9_1, hfz9_2, hfz9_3⟩ := zq4 BK282))
 refine bodyPost_ret (results_cell_row rfl _ _ gb282 26 #[.int .i64 t283, .int .i64 t284, .int .i64 t285, .int .i64 t286] (0, 0) _ rfl (by exact zp BK282 rfl) Try.underlying26 rfl (by kernel_rfl)) rfl ?_
 exact ⟨by first | rfl | (simp [errW_none, errW_some] <;> rfl) | (simp [*, errW_none, errW_some] <;> rfl), by exact zbo HB GE282⟩

/-! ### raster_Flip_2: function 52 -/
def raster_Flip_2.f (a0 : Int) (a1 : Int) (a2_0 : Int) (a2_1 : Int) (l2_2 : List (S26)) : Option (Int × Int × Int × Int) := (raster_get.f a2_0 a2_1 l2_2 a0 (wrap64 ((wrap64 (a2_1 - 1)) - a1))).bind fun bt289 => (some (bt289.1, bt289.2.1, bt289.2.2.1, bt289.2.2.2))
set_option maxHeartbeats 8000000 in
set_option maxRecDepth 100000 in
theorem raster_Flip_2.calls (a0 : Int) (a1 : Int) (gc2_0 : Nat) (a2_0 : Int) (a2_1 : Int) (A2_2 : Option Addr) (c2_2 : Nat) (l2_2 : List (S26)) (r1 : Int) (r2 : Int) (r3 : Int) (r4 : Int) (w : World) (hp2_0 : w.heap[gc2_0]? = some (.cells #[.int .i64 a2_0, .int .i64 a2_1, .slice A2_2 l2_2.length c2_2] 24 (0, 0))) (hr2_2 : Kd.C k26 w A2_2 l2_2.length l2_2) (hc2_2 : l2_2.length ≤ c2_2) (h : raster_Flip_2.f a0 a1 a2_0 a2_1 l2_2 = some (r1, r2, r3, r4)) :
  Calls Try.prog 52 #[.int .i64 a0, .int .i64 a1, .pointer (some ⟨gc2_0, 0, none⟩)] w fun e w' => e = .returned (.agg #[.int .i64 r1, .int .i64 r2, .int .i64 r3, .int .i64 r4]) ∧ Below w.heap.size w w' := by
 have hu26 := Try.underlying26
 have hu24 := Try.underlying24
 have HR2_2 := Aside0.mk hr2_2
 have HC2_2 := Aside0.mk hc2_2
 clear hr2_2 hc2_2
 have BK287 := Aside0.mk hp2_0
 have GL287 := Aside0.mk (show gc2_0 < w.heap.size from blk_lt hp2_0)
 clear hp2_0
 have HB := Aside0.mk (Below.refl w.heap.size w)
 have H : ((raster_get.f a2_0 a2_1 l2_2 a0 (wrap64 ((wrap64 (a2_1 - 1)) - a1))).bind fun bt289 => (some (bt289.1, bt289.2.1, bt289.2.2.1, bt289.2.2.2))) = some (r1, r2, r3, r4) := h
 clear h
 replace H := Option.bind_eq_some_iff.mp H
 obtain ⟨⟨t289, t290, t291, t292⟩, A40, H⟩ := H
 replace H : (some (t289, t290, t291, t292)) = some (r1, r2, r3, r4) := H
 have A4 := Aside0.mk A40
 clear A40
 simp only [Option.some.injEq, Prod.mk.injEq] at H
 obtain ⟨rfl, rfl, rfl, rfl⟩ := H
 go_enter Try.func52, Try.ntmps52
 go_wp2_with (first | ((with_reducible refine gate_dst (N := 5) rfl ?_); refine box_event ?hg (N := 5) ?hd (cs := #[.int .i64 0, .int .i64 0, .int .i64 0, .int .i64 0]) (t := 26) ?hr ?_; (case hd => rfl); (case hg => rfl); (case hr => first | (go_simp; done) | (go_simp; rfl)); intro gb288 hg w5 hbox hb; have GW288 := zg HB hg; have GE288 := zg HB hg; have NB287_288 := zn BK287 hg; have NB288_287 := zn' BK287 hg; have n0_ := Aside0.mk (hbox); replace BK287 := zk BK287 hb; replace HB := zb HB hb; have BK288 := n0_; clear n0_; clear hb hbox hg; have hnb6 := NB287_288.out; have hnc6 := NB288_287.out; obtain ⟨hcz7_0, hcz7_1, hcz7_2, hfz7_0, hfz7_1, hfz7_2⟩ := zq3 BK287) | ((with_reducible refine gate_callee (f := 43) rfl ?_); refine goesL_ (some 13) rfl rfl Try.func43 (by kernel_rfl) rfl #[.agg #[.int .i64 a2_0, .int .i64 a2_1, .slice A2_2 l2_2.length c2_2], .int .i64 a0, .int .i64 (wrap64 ((wrap64 (a2_1 - 1)) - a1))] rfl (by (try simp only [List.map_toArray, List.map_cons, List.map_nil]); first | done | rfl | (simp only [List.length_drop, List.length_take]; rfl)) ?_; (with_reducible refine (raster_get.calls a2_0 a2_1 _ _ l2_2 a0 (wrap64 ((wrap64 (a2_1 - 1)) - a1)) t289 t290 t291 t292 _ ?side1 ?side2 A4.out).mono ?_); (case side1 => repeat (first | exact (Kd.C_below HR2_2.out HB.out) | (with_reducible refine Kd.C_alloc ?_ _) | (with_reducible refine Kd.C_drewN ?_ _) | (with_reducible refine Kd.C_drew ?_))); (case side2 => exact HC2_2.out); rintro e w8 ⟨rfl, hb⟩; refine ⟨_, rfl, ?_⟩; replace BK287 := zk BK287 hb; replace BK288 := zk BK288 hb; replace HB := zb HB hb; (try clear hb); (try clear hb2); (try clear hk); (try clear hi); obtain ⟨hcz9_0, hcz9_1, hcz9_2, hcz9_3, hfz9_0, hfz9_1, hfz9_2, hfz9_3⟩ := zq4 BK288))
 refine bodyPost_ret (results_cell_row rfl _ _ gb288 26 #[.int .i64 t289, .int .i64 t290, .int .i64 t291, .int .i64 t292] (0, 0) _ rfl (by exact zp BK288 rfl) Try.underlying26 rfl (by kernel_rfl)) rfl ?_
 exact ⟨by first | rfl | (simp [errW_none, errW_some] <;> rfl) | (simp [*, errW_none, errW_some] <;> rfl), by exact zbo HB GE288⟩

end Go.Proofs.Ytjepbimgddgijaa.G
