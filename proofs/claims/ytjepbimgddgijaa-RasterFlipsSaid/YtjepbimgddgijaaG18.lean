/- Contracts of functions of the program, each as it is called: what it computes (.f), that it computes no less with more rounds (.mono), and that a call returns just that (.calls). No conditions but those that each contract names. Written by a program of this session (wip/gx.py over the kit's print). -/
import Derived.Test.YtjepbimgddgijaaG0
import Derived.Test.YtjepbimgddgijaaG1
import Derived.Test.YtjepbimgddgijaaG2
import Derived.Test.YtjepbimgddgijaaG8
import Derived.Test.YtjepbimgddgijaaG10
import Derived.Test.YtjepbimgddgijaaG11
import Derived.Test.YtjepbimgddgijaaG14
import Derived.Test.YtjepbimgddgijaaG17
namespace Go.Proofs.Ytjepbimgddgijaa.G
open Go.RowKit Go.Proofs.YtjepbimgddgijaaW.PrintWords Go.Proofs.YtjepbimgddgijaaW.PrintLast Go.Proofs.YtjepbimgddgijaaW.PrintMore
attribute [local go_sem] max2_int min2_int max_two min_two max_three min_three max_four min_four   -- for this text's walks alone
set_option linter.unusedVariables false
set_option linter.unusedSimpArgs false


attribute [local go_sem high] eqA37
/-! ### imageeditorref02_Join: function 55 -/
def imageeditorref02_Join.j0 : Nat → Bool → Int → Int → Int → Int → Int → Int → Int → Int → Option (Int × Int × Int × Int)
 | 0, _, _, _, _, _, _, _, _, _ => none
 | k + 1, x18, x704000, x704001, x704002, x704003, x705000, x705001, x705002, x705003 => if x18 = true then (some (0, 0, 0, 0)) else ((imageeditorref02_Empty.f x704000 x704001 x704002 x704003).bind fun t708 => (if t708 = true then (some (x705000, x705001, x705002, x705003)) else ((imageeditorref02_Empty.f x705000 x705001 x705002 x705003).bind fun t709 => (if t709 = true then (some (x704000, x704001, x704002, x704003)) else ((imageeditorref02_span.f k x704000 x704001 x704002 x704003 0).bind fun bt710 => ((imageeditorref02_span.f k x704000 x704001 x704002 x704003 1).bind fun bt712 => ((imageeditorref02_span.f k x705000 x705001 x705002 x705003 0).bind fun bt714 => ((imageeditorref02_span.f k x705000 x705001 x705002 x705003 1).bind fun bt716 => ((imageeditorref02_of.f (mn bt710.1 bt714.1) (mx bt710.2 bt714.2) (mn bt712.1 bt716.1) (mx bt712.2 bt716.2)).bind fun bt718 => (some (bt718.1, bt718.2.1, bt718.2.2.1, bt718.2.2.2)))))))))))
def imageeditorref02_Join.f (k : Nat) (a0_0 : Int) (a0_1 : Int) (a0_2 : Int) (a0_3 : Int) (a1_0 : Int) (a1_1 : Int) (a1_2 : Int) (a1_3 : Int) : Option (Int × Int × Int × Int) := (imageeditorref02_Empty.f a0_0 a0_1 a0_2 a0_3).bind fun t706 => (if t706 = true then ((imageeditorref02_Empty.f a1_0 a1_1 a1_2 a1_3).bind fun t707 => (imageeditorref02_Join.j0 k t707 a0_0 a0_1 a0_2 a0_3 a1_0 a1_1 a1_2 a1_3)) else (imageeditorref02_Join.j0 k false a0_0 a0_1 a0_2 a0_3 a1_0 a1_1 a1_2 a1_3))
theorem imageeditorref02_Join.mono_l : ∀ k, (∀ y0 y1 y2 y3 y4 y5 y6 y7 y8, LeO (imageeditorref02_Join.j0 k y0 y1 y2 y3 y4 y5 y6 y7 y8) (imageeditorref02_Join.j0 (k + 1) y0 y1 y2 y3 y4 y5 y6 y7 y8))
 | 0 => fun _ _ _ _ _ _ _ _ _ r h => by simp [imageeditorref02_Join.j0] at h
 | k + 1 => by
  have ih0 := imageeditorref02_Join.mono_l k
  ·intro y0 y1 y2 y3 y4 y5 y6 y7 y8
   unfold imageeditorref02_Join.j0
   repeat' first
   | (with_reducible exact ih0 _ _ _ _ _ _ _ _ _)
   | (with_reducible exact imageeditorref02_span.mono _ _ _ _ _ _)
   | (with_reducible exact LeO.refl _)
   | (with_reducible exact LeO.none _)
   | (with_reducible refine LeO.ite ?_ ?_)
   | (with_reducible refine LeO.bind ?_ (fun _ => ?_))
   | exact ih0 _ _ _ _ _ _ _ _ _
   | exact imageeditorref02_span.mono _ _ _ _ _ _
   | exact LeO.none _
   | refine LeO.ite ?_ ?_
   | refine LeO.bind ?_ (fun _ => ?_)
theorem imageeditorref02_Join.mono : ∀ a0 a1 a2 a3 a4 a5 a6 a7 k, LeO (imageeditorref02_Join.f k a0 a1 a2 a3 a4 a5 a6 a7) (imageeditorref02_Join.f (k + 1) a0 a1 a2 a3 a4 a5 a6 a7) := by
 intro a0 a1 a2 a3 a4 a5 a6 a7 k
 have ih0 := imageeditorref02_Join.mono_l k
 unfold imageeditorref02_Join.f
 repeat' first
   | (with_reducible exact ih0 _ _ _ _ _ _ _ _ _)
   | (with_reducible exact imageeditorref02_span.mono _ _ _ _ _ _)
   | (with_reducible exact LeO.refl _)
   | (with_reducible exact LeO.none _)
   | (with_reducible refine LeO.ite ?_ ?_)
   | (with_reducible refine LeO.bind ?_ (fun _ => ?_))
   | exact ih0 _ _ _ _ _ _ _ _ _
   | exact imageeditorref02_span.mono _ _ _ _ _ _
   | exact LeO.none _
   | refine LeO.ite ?_ ?_
   | refine LeO.bind ?_ (fun _ => ?_)
set_option maxHeartbeats 8000000 in
set_option maxRecDepth 100000 in
theorem imageeditorref02_Join.calls (k : Nat) (a0_0 : Int) (a0_1 : Int) (a0_2 : Int) (a0_3 : Int) (a1_0 : Int) (a1_1 : Int) (a1_2 : Int) (a1_3 : Int) (r1 : Int) (r2 : Int) (r3 : Int) (r4 : Int) (w : World) (h : imageeditorref02_Join.f k a0_0 a0_1 a0_2 a0_3 a1_0 a1_1 a1_2 a1_3 = some (r1, r2, r3, r4)) :
  Calls Try.prog 55 #[.agg #[.int .i64 a0_0, .int .i64 a0_1, .int .i64 a0_2, .int .i64 a0_3], .agg #[.int .i64 a1_0, .int .i64 a1_1, .int .i64 a1_2, .int .i64 a1_3]] w fun e w' => e = .returned (.agg #[.int .i64 r1, .int .i64 r2, .int .i64 r3, .int .i64 r4]) ∧ Below w.heap.size w w' := by
 have hu37 := Try.underlying37
 have HB := Aside0.mk (Below.refl w.heap.size w)
 have H : ((imageeditorref02_Empty.f a0_0 a0_1 a0_2 a0_3).bind fun t706 => (if t706 = true then ((imageeditorref02_Empty.f a1_0 a1_1 a1_2 a1_3).bind fun t707 => (imageeditorref02_Join.j0 k t707 a0_0 a0_1 a0_2 a0_3 a1_0 a1_1 a1_2 a1_3)) else (imageeditorref02_Join.j0 k false a0_0 a0_1 a0_2 a0_3 a1_0 a1_1 a1_2 a1_3))) = some (r1, r2, r3, r4) := h
 clear h
 have HC3 := Aside0.mk H
 clear H
 go_enter Try.func55, Try.ntmps55
 go_upto_region 1 with (first | ((with_reducible refine gate_dst (N := 2) rfl ?_); refine box_event ?hg (N := 2) ?hd (cs := #[.int .i64 a0_0, .int .i64 a0_1, .int .i64 a0_2, .int .i64 a0_3]) (t := 37) ?hr ?_; (case hd => rfl); (case hg => rfl); (case hr => first | (go_simp; done) | (go_simp; rfl)); intro gb703 hg w4 hbox hb; have GW703 := zg HB hg; have GE703 := zg HB hg; have n0_ := Aside0.mk (hbox); replace HB := zb HB hb; have BK703 := n0_; clear n0_; clear hb hbox hg) | ((with_reducible refine gate_dst (N := 3) rfl ?_); refine box_event ?hg (N := 3) ?hd (cs := #[.int .i64 a1_0, .int .i64 a1_1, .int .i64 a1_2, .int .i64 a1_3]) (t := 37) ?hr ?_; (case hd => rfl); (case hg => rfl); (case hr => first | (go_simp; done) | (go_simp; rfl)); intro gb704 hg w5 hbox hb; have GW704 := zg HB hg; have GE704 := zg HB hg; have NB703_704 := zn BK703 hg; have NB704_703 := zn' BK703 hg; have n0_ := Aside0.mk (hbox); replace BK703 := zk BK703 hb; replace HB := zb HB hb; have BK704 := n0_; clear n0_; clear hb hbox hg) | ((with_reducible refine gate_dst (N := 4) rfl ?_); refine box_event ?hg (N := 4) ?hd (cs := #[.int .i64 0, .int .i64 0, .int .i64 0, .int .i64 0]) (t := 37) ?hr ?_; (case hd => rfl); (case hg => rfl); (case hr => first | (go_simp; done) | (go_simp; rfl)); intro gb705 hg w6 hbox hb; have GW705 := zg HB hg; have GE705 := zg HB hg; have NB703_705 := zn BK703 hg; have NB705_703 := zn' BK703 hg; have NB704_705 := zn BK704 hg; have NB705_704 := zn' BK704 hg; have n0_ := Aside0.mk (hbox); replace BK703 := zk BK703 hb; replace BK704 := zk BK704 hb; replace HB := zb HB hb; have BK705 := n0_; clear n0_; clear hb hbox hg))
 (try simp only [Act.put, sA, sB, sC])
 go_cut [18] (fun v18 wc => ∃ (kq : Nat) (x18_2 : Bool), v18 = .bool x18_2 ∧ Aside0 (imageeditorref02_Join.j0 kq x18_2 a0_0 a0_1 a0_2 a0_3 a1_0 a1_1 a1_2 a1_3 = some (r1, r2, r3, r4)) ∧ Aside0 (kq ≤ k) ∧ Aside0 (wc.heap[gb703]? = some (.cells #[.int .i64 a0_0, .int .i64 a0_1, .int .i64 a0_2, .int .i64 a0_3] 37 (0, 0))) ∧ Aside0 (wc.heap[gb704]? = some (.cells #[.int .i64 a1_0, .int .i64 a1_1, .int .i64 a1_2, .int .i64 a1_3] 37 (0, 0))) ∧ Aside0 (wc.heap[gb705]? = some (.cells #[.int .i64 0, .int .i64 0, .int .i64 0, .int .i64 0] 37 (0, 0))) ∧ Aside0 (Below w.heap.size w wc))
 case first =>
  have H := HC3.out
  clear HC3
  replace H := Option.bind_eq_some_iff.mp H
  obtain ⟨t706, A70, H⟩ := H
  replace H : (if t706 = true then ((imageeditorref02_Empty.f a1_0 a1_1 a1_2 a1_3).bind fun t707 => (imageeditorref02_Join.j0 k t707 a0_0 a0_1 a0_2 a0_3 a1_0 a1_1 a1_2 a1_3)) else (imageeditorref02_Join.j0 k false a0_0 a0_1 a0_2 a0_3 a1_0 a1_1 a1_2 a1_3)) = some (r1, r2, r3, r4) := H
  have A7 := Aside0.mk A70
  clear A70
  by_cases c8 : t706 = true
  ·subst c8
   have H1 : ((imageeditorref02_Empty.f a1_0 a1_1 a1_2 a1_3).bind fun t707 => (imageeditorref02_Join.j0 k t707 a0_0 a0_1 a0_2 a0_3 a1_0 a1_1 a1_2 a1_3)) = some (r1, r2, r3, r4) := by rw [if_pos rfl] at H; exact H
   clear H
   have H := H1
   clear H1
   replace H := Option.bind_eq_some_iff.mp H
   obtain ⟨t707, A90, H⟩ := H
   replace H : (imageeditorref02_Join.j0 k t707 a0_0 a0_1 a0_2 a0_3 a1_0 a1_1 a1_2 a1_3) = some (r1, r2, r3, r4) := H
   have A9 := Aside0.mk A90
   clear A90
   have H' := Aside0.mk H
   clear H
   obtain ⟨hcz10_0, hcz10_1, hcz10_2, hcz10_3, hfz10_0, hfz10_1, hfz10_2, hfz10_3⟩ := zq4 BK703
   go_wp2_with (first | ((with_reducible refine gate_callee (f := 49) rfl ?_); refine goesL_ (some 14) rfl rfl Try.func49 (by kernel_rfl) rfl #[.agg #[.int .i64 a0_0, .int .i64 a0_1, .int .i64 a0_2, .int .i64 a0_3]] rfl (by (try simp only [List.map_toArray, List.map_cons, List.map_nil]); first | done | rfl | (simp only [List.length_drop, List.length_take]; rfl)) ?_; (with_reducible refine (imageeditorref02_Empty.calls a0_0 a0_1 a0_2 a0_3 true _ A7.out).mono ?_); rintro e w11 ⟨rfl, hb⟩; refine ⟨_, rfl, ?_⟩; replace BK703 := zk BK703 hb; replace BK704 := zk BK704 hb; replace BK705 := zk BK705 hb; replace HB := zb HB hb; (try clear hb); (try clear hb2); (try clear hk); (try clear hi); obtain ⟨hcz12_0, hcz12_1, hcz12_2, hcz12_3, hfz12_0, hfz12_1, hfz12_2, hfz12_3⟩ := zq4 BK704) | (go_at_call 49; (with_reducible refine (imageeditorref02_Empty.calls a1_0 a1_1 a1_2 a1_3 t707 _ A9.out).mono ?_); rintro e w13 ⟨rfl, hb⟩; replace BK703 := zk BK703 hb; replace BK704 := zk BK704 hb; replace BK705 := zk BK705 hb; replace HB := zb HB hb; (try clear hb); (try clear hb2); (try clear hk); (try clear hi)))
   go_meet
   case rel => exact ⟨_, (t707), (by first | rfl | (simp; done) | (simp [*]; done)), H', ⟨by first | omega | exact Nat.le_refl _⟩, ⟨by exact zk0 BK703⟩, ⟨by exact zk0 BK704⟩, ⟨by exact zk0 BK705⟩, ⟨by exact zb0 HB⟩⟩
  ·replace c8 := Bool.eq_false_iff.mpr c8
   subst c8
   have H1 : (imageeditorref02_Join.j0 k false a0_0 a0_1 a0_2 a0_3 a1_0 a1_1 a1_2 a1_3) = some (r1, r2, r3, r4) := by rw [if_neg (show ¬ (false = true) by decide)] at H; exact H
   clear H
   have H := H1
   clear H1
   have H' := Aside0.mk H
   clear H
   obtain ⟨hcz14_0, hcz14_1, hcz14_2, hcz14_3, hfz14_0, hfz14_1, hfz14_2, hfz14_3⟩ := zq4 BK703
   go_wp2_with (first | ((with_reducible refine gate_callee (f := 49) rfl ?_); refine goesL_ (some 14) rfl rfl Try.func49 (by kernel_rfl) rfl #[.agg #[.int .i64 a0_0, .int .i64 a0_1, .int .i64 a0_2, .int .i64 a0_3]] rfl (by (try simp only [List.map_toArray, List.map_cons, List.map_nil]); first | done | rfl | (simp only [List.length_drop, List.length_take]; rfl)) ?_; (with_reducible refine (imageeditorref02_Empty.calls a0_0 a0_1 a0_2 a0_3 false _ A7.out).mono ?_); rintro e w15 ⟨rfl, hb⟩; refine ⟨_, rfl, ?_⟩; replace BK703 := zk BK703 hb; replace BK704 := zk BK704 hb; replace BK705 := zk BK705 hb; replace HB := zb HB hb; (try clear hb); (try clear hb2); (try clear hk); (try clear hi)))
   go_meet
   case rel => exact ⟨_, (false), (by first | rfl | (simp; done) | (simp [*]; done)), H', ⟨by first | omega | exact Nat.le_refl _⟩, ⟨by exact zk0 BK703⟩, ⟨by exact zk0 BK704⟩, ⟨by exact zk0 BK705⟩, ⟨by exact zb0 HB⟩⟩
 case rest =>
  clear HC3
  try clear p2
  try clear c4
  try clear q4
  try clear c5
  try clear c8
  try clear hcz10_0
  try clear hcz10_1
  try clear hcz10_2
  try clear hcz10_3
  try clear hcz12_0
  try clear hcz12_1
  try clear hcz12_2
  try clear hcz12_3
  try clear hcz14_0
  try clear hcz14_1
  try clear hcz14_2
  try clear hcz14_3
  try clear hfz10_0
  try clear hfz10_1
  try clear hfz10_2
  try clear hfz10_3
  try clear hfz12_0
  try clear hfz12_1
  try clear hfz12_2
  try clear hfz12_3
  try clear hfz14_0
  try clear hfz14_1
  try clear hfz14_2
  try clear hfz14_3
  obtain ⟨kq, x18_2, rfl, HA, HJ2, BK703, BK704, BK705, HB⟩ := hcut
  cases kq with
  | zero => exact absurd HA.out (by simp [imageeditorref02_Join.j0])
  | succ kj2 =>
   have H := HA.out
   clear HA
   simp only [imageeditorref02_Join.j0] at H
   by_cases c16 : x18_2 = true
   ·subst c16
    have H1 : (some (0, 0, 0, 0)) = some (r1, r2, r3, r4) := by rw [if_pos rfl] at H; exact H
    clear H
    have H := H1
    clear H1
    simp only [Option.some.injEq, Prod.mk.injEq] at H
    obtain ⟨rfl, rfl, rfl, rfl⟩ := H
    have hnb17 := NB705_703.out
    have hnc17 := NB703_705.out
    have hnb18 := NB705_704.out
    have hnc18 := NB704_705.out
    obtain ⟨hcz19_0, hcz19_1, hcz19_2, hcz19_3, hfz19_0, hfz19_1, hfz19_2, hfz19_3⟩ := zq4 BK705
    go_wp2
    refine bodyPost_ret (results_cell_row rfl _ _ gb705 37 #[.int .i64 0, .int .i64 0, .int .i64 0, .int .i64 0] (0, 0) _ rfl (by exact zp BK705 rfl) Try.underlying37 rfl (by kernel_rfl)) rfl ?_
    exact ⟨by first | rfl | (simp [errW_none, errW_some] <;> rfl) | (simp [*, errW_none, errW_some] <;> rfl), by exact zbo HB GE705⟩
   ·replace c16 := Bool.eq_false_iff.mpr c16
    subst c16
    have H1 : ((imageeditorref02_Empty.f a0_0 a0_1 a0_2 a0_3).bind fun t708 => (if t708 = true then (some (a1_0, a1_1, a1_2, a1_3)) else ((imageeditorref02_Empty.f a1_0 a1_1 a1_2 a1_3).bind fun t709 => (if t709 = true then (some (a0_0, a0_1, a0_2, a0_3)) else ((imageeditorref02_span.f kj2 a0_0 a0_1 a0_2 a0_3 0).bind fun bt710 => ((imageeditorref02_span.f kj2 a0_0 a0_1 a0_2 a0_3 1).bind fun bt712 => ((imageeditorref02_span.f kj2 a1_0 a1_1 a1_2 a1_3 0).bind fun bt714 => ((imageeditorref02_span.f kj2 a1_0 a1_1 a1_2 a1_3 1).bind fun bt716 => ((imageeditorref02_of.f (mn bt710.1 bt714.1) (mx bt710.2 bt714.2) (mn bt712.1 bt716.1) (mx bt712.2 bt716.2)).bind fun bt718 => (some (bt718.1, bt718.2.1, bt718.2.2.1, bt718.2.2.2))))))))))) = some (r1, r2, r3, r4) := by rw [if_neg (show ¬ (false = true) by decide)] at H; exact H
    clear H
    have H := H1
    clear H1
    replace H := Option.bind_eq_some_iff.mp H
    obtain ⟨t708, A200, H⟩ := H
    replace H : (if t708 = true then (some (a1_0, a1_1, a1_2, a1_3)) else ((imageeditorref02_Empty.f a1_0 a1_1 a1_2 a1_3).bind fun t709 => (if t709 = true then (some (a0_0, a0_1, a0_2, a0_3)) else ((imageeditorref02_span.f kj2 a0_0 a0_1 a0_2 a0_3 0).bind fun bt710 => ((imageeditorref02_span.f kj2 a0_0 a0_1 a0_2 a0_3 1).bind fun bt712 => ((imageeditorref02_span.f kj2 a1_0 a1_1 a1_2 a1_3 0).bind fun bt714 => ((imageeditorref02_span.f kj2 a1_0 a1_1 a1_2 a1_3 1).bind fun bt716 => ((imageeditorref02_of.f (mn bt710.1 bt714.1) (mx bt710.2 bt714.2) (mn bt712.1 bt716.1) (mx bt712.2 bt716.2)).bind fun bt718 => (some (bt718.1, bt718.2.1, bt718.2.2.1, bt718.2.2.2)))))))))) = some (r1, r2, r3, r4) := H
    have A20 := Aside0.mk A200
    clear A200
    by_cases c21 : t708 = true
    ·subst c21
     have H1 : (some (a1_0, a1_1, a1_2, a1_3)) = some (r1, r2, r3, r4) := by rw [if_pos rfl] at H; exact H
     clear H
     have H := H1
     clear H1
     simp only [Option.some.injEq, Prod.mk.injEq] at H
     obtain ⟨rfl, rfl, rfl, rfl⟩ := H
     have hnb22 := NB703_704.out
     have hnc22 := NB704_703.out
     have hnb23 := NB703_705.out
     have hnc23 := NB705_703.out
     obtain ⟨hcz24_0, hcz24_1, hcz24_2, hcz24_3, hfz24_0, hfz24_1, hfz24_2, hfz24_3⟩ := zq4 BK703
     go_wp2_with (first | ((with_reducible refine gate_callee (f := 49) rfl ?_); refine goesL_ (some 21) rfl rfl Try.func49 (by kernel_rfl) rfl #[.agg #[.int .i64 a0_0, .int .i64 a0_1, .int .i64 a0_2, .int .i64 a0_3]] rfl (by (try simp only [List.map_toArray, List.map_cons, List.map_nil]); first | done | rfl | (simp only [List.length_drop, List.length_take]; rfl)) ?_; (with_reducible refine (imageeditorref02_Empty.calls a0_0 a0_1 a0_2 a0_3 true _ A20.out).mono ?_); rintro e w25 ⟨rfl, hb⟩; refine ⟨_, rfl, ?_⟩; replace BK703 := zk BK703 hb; replace BK704 := zk BK704 hb; replace BK705 := zk BK705 hb; replace HB := zb HB hb; (try clear hb); (try clear hb2); (try clear hk); (try clear hi); have hnb26 := NB704_705.out; have hnc26 := NB705_704.out; obtain ⟨hcz27_0, hcz27_1, hcz27_2, hcz27_3, hfz27_0, hfz27_1, hfz27_2, hfz27_3⟩ := zq4 BK704; obtain ⟨hcz28_0, hcz28_1, hcz28_2, hcz28_3, hfz28_0, hfz28_1, hfz28_2, hfz28_3⟩ := zq4 BK705))
     refine bodyPost_ret (results_cell_row rfl _ _ gb705 37 #[.int .i64 a1_0, .int .i64 a1_1, .int .i64 a1_2, .int .i64 a1_3] (0, 0) _ rfl (by exact zp BK705 rfl) Try.underlying37 rfl (by kernel_rfl)) rfl ?_
     exact ⟨by first | rfl | (simp [errW_none, errW_some] <;> rfl) | (simp [*, errW_none, errW_some] <;> rfl), by exact zbo HB GE705⟩
    ·replace c21 := Bool.eq_false_iff.mpr c21
     subst c21
     have H1 : ((imageeditorref02_Empty.f a1_0 a1_1 a1_2 a1_3).bind fun t709 => (if t709 = true then (some (a0_0, a0_1, a0_2, a0_3)) else ((imageeditorref02_span.f kj2 a0_0 a0_1 a0_2 a0_3 0).bind fun bt710 => ((imageeditorref02_span.f kj2 a0_0 a0_1 a0_2 a0_3 1).bind fun bt712 => ((imageeditorref02_span.f kj2 a1_0 a1_1 a1_2 a1_3 0).bind fun bt714 => ((imageeditorref02_span.f kj2 a1_0 a1_1 a1_2 a1_3 1).bind fun bt716 => ((imageeditorref02_of.f (mn bt710.1 bt714.1) (mx bt710.2 bt714.2) (mn bt712.1 bt716.1) (mx bt712.2 bt716.2)).bind fun bt718 => (some (bt718.1, bt718.2.1, bt718.2.2.1, bt718.2.2.2))))))))) = some (r1, r2, r3, r4) := by rw [if_neg (show ¬ (false = true) by decide)] at H; exact H
     clear H
     have H := H1
     clear H1
     replace H := Option.bind_eq_some_iff.mp H
     obtain ⟨t709, A290, H⟩ := H
     replace H : (if t709 = true then (some (a0_0, a0_1, a0_2, a0_3)) else ((imageeditorref02_span.f kj2 a0_0 a0_1 a0_2 a0_3 0).bind fun bt710 => ((imageeditorref02_span.f kj2 a0_0 a0_1 a0_2 a0_3 1).bind fun bt712 => ((imageeditorref02_span.f kj2 a1_0 a1_1 a1_2 a1_3 0).bind fun bt714 => ((imageeditorref02_span.f kj2 a1_0 a1_1 a1_2 a1_3 1).bind fun bt716 => ((imageeditorref02_of.f (mn bt710.1 bt714.1) (mx bt710.2 bt714.2) (mn bt712.1 bt716.1) (mx bt712.2 bt716.2)).bind fun bt718 => (some (bt718.1, bt718.2.1, bt718.2.2.1, bt718.2.2.2)))))))) = some (r1, r2, r3, r4) := H
     have A29 := Aside0.mk A290
     clear A290
     by_cases c30 : t709 = true
     ·subst c30
      have H1 : (some (a0_0, a0_1, a0_2, a0_3)) = some (r1, r2, r3, r4) := by rw [if_pos rfl] at H; exact H
      clear H
      have H := H1
      clear H1
      simp only [Option.some.injEq, Prod.mk.injEq] at H
      obtain ⟨rfl, rfl, rfl, rfl⟩ := H
      have hnb31 := NB703_704.out
      have hnc31 := NB704_703.out
      have hnb32 := NB703_705.out
      have hnc32 := NB705_703.out
      obtain ⟨hcz33_0, hcz33_1, hcz33_2, hcz33_3, hfz33_0, hfz33_1, hfz33_2, hfz33_3⟩ := zq4 BK703
      go_wp2_with (first | ((with_reducible refine gate_callee (f := 49) rfl ?_); refine goesL_ (some 21) rfl rfl Try.func49 (by kernel_rfl) rfl #[.agg #[.int .i64 a0_0, .int .i64 a0_1, .int .i64 a0_2, .int .i64 a0_3]] rfl (by (try simp only [List.map_toArray, List.map_cons, List.map_nil]); first | done | rfl | (simp only [List.length_drop, List.length_take]; rfl)) ?_; (with_reducible refine (imageeditorref02_Empty.calls a0_0 a0_1 a0_2 a0_3 false _ A20.out).mono ?_); rintro e w34 ⟨rfl, hb⟩; refine ⟨_, rfl, ?_⟩; replace BK703 := zk BK703 hb; replace BK704 := zk BK704 hb; replace BK705 := zk BK705 hb; replace HB := zb HB hb; (try clear hb); (try clear hb2); (try clear hk); (try clear hi); have hnb35 := NB704_705.out; have hnc35 := NB705_704.out; obtain ⟨hcz36_0, hcz36_1, hcz36_2, hcz36_3, hfz36_0, hfz36_1, hfz36_2, hfz36_3⟩ := zq4 BK704) | ((with_reducible refine gate_callee (f := 49) rfl ?_); refine goesL_ (some 24) rfl rfl Try.func49 (by kernel_rfl) rfl #[.agg #[.int .i64 a1_0, .int .i64 a1_1, .int .i64 a1_2, .int .i64 a1_3]] rfl (by (try simp only [List.map_toArray, List.map_cons, List.map_nil]); first | done | rfl | (simp only [List.length_drop, List.length_take]; rfl)) ?_; (with_reducible refine (imageeditorref02_Empty.calls a1_0 a1_1 a1_2 a1_3 true _ A29.out).mono ?_); rintro e w37 ⟨rfl, hb⟩; refine ⟨_, rfl, ?_⟩; replace BK703 := zk BK703 hb; replace BK704 := zk BK704 hb; replace BK705 := zk BK705 hb; replace HB := zb HB hb; (try clear hb); (try clear hb2); (try clear hk); (try clear hi); obtain ⟨hcz38_0, hcz38_1, hcz38_2, hcz38_3, hfz38_0, hfz38_1, hfz38_2, hfz38_3⟩ := zq4 BK703; obtain ⟨hcz39_0, hcz39_1, hcz39_2, hcz39_3, hfz39_0, hfz39_1, hfz39_2, hfz39_3⟩ := zq4 BK705))
      refine bodyPost_ret (results_cell_row rfl _ _ gb705 37 #[.int .i64 a0_0, .int .i64 a0_1, .int .i64 a0_2, .int .i64 a0_3] (0, 0) _ rfl (by exact zp BK705 rfl) Try.underlying37 rfl (by kernel_rfl)) rfl ?_
      exact ⟨by first | rfl | (simp [errW_none, errW_some] <;> rfl) | (simp [*, errW_none, errW_some] <;> rfl), by exact zbo HB GE705⟩
     ·replace c30 := Bool.eq_false_iff.mpr c30
      subst c30
      have H1 : ((imageeditorref02_span.f kj2 a0_0 a0_1 a0_2 a0_3 0).bind fun bt710 => ((imageeditorref02_span.f kj2 a0_0 a0_1 a0_2 a0_3 1).bind fun bt712 => ((imageeditorref02_span.f kj2 a1_0 a1_1 a1_2 a1_3 0).bind fun bt714 => ((imageeditorref02_span.f kj2 a1_0 a1_1 a1_2 a1_3 1).bind fun bt716 => ((imageeditorref02_of.f (mn bt710.1 bt714.1) (mx bt710.2 bt714.2) (mn bt712.1 bt716.1) (mx bt712.2 bt716.2)).bind fun bt718 => (some (bt718.1, bt718.2.1, bt718.2.2.1, bt718.2.2.2))))))) = some (r1, r2, r3, r4) := by rw [if_neg (show ¬ (false = true) by decide)] at H; exact H
      clear H
      have H := H1
      clear H1
      replace H := Option.bind_eq_some_iff.mp H
      obtain ⟨⟨t710, t711⟩, A400, H⟩ := H
      replace H : ((imageeditorref02_span.f kj2 a0_0 a0_1 a0_2 a0_3 1).bind fun bt712 => ((imageeditorref02_span.f kj2 a1_0 a1_1 a1_2 a1_3 0).bind fun bt714 => ((imageeditorref02_span.f kj2 a1_0 a1_1 a1_2 a1_3 1).bind fun bt716 => ((imageeditorref02_of.f (mn t710 bt714.1) (mx t711 bt714.2) (mn bt712.1 bt716.1) (mx bt712.2 bt716.2)).bind fun bt718 => (some (bt718.1, bt718.2.1, bt718.2.2.1, bt718.2.2.2)))))) = some (r1, r2, r3, r4) := H
      have A40 := Aside0.mk A400
      clear A400
      replace H := Option.bind_eq_some_iff.mp H
      obtain ⟨⟨t712, t713⟩, A410, H⟩ := H
      replace H : ((imageeditorref02_span.f kj2 a1_0 a1_1 a1_2 a1_3 0).bind fun bt714 => ((imageeditorref02_span.f kj2 a1_0 a1_1 a1_2 a1_3 1).bind fun bt716 => ((imageeditorref02_of.f (mn t710 bt714.1) (mx t711 bt714.2) (mn t712 bt716.1) (mx t713 bt716.2)).bind fun bt718 => (some (bt718.1, bt718.2.1, bt718.2.2.1, bt718.2.2.2))))) = some (r1, r2, r3, r4) := H
      have A41 := Aside0.mk A410
      clear A410
      replace H := Option.bind_eq_some_iff.mp H
      obtain ⟨⟨t714, t715⟩, A420, H⟩ := H
      replace H : ((imageeditorref02_span.f kj2 a1_0 a1_1 a1_2 a1_3 1).bind fun bt716 => ((imageeditorref02_of.f (mn t710 t714) (mx t711 t715) (mn t712 bt716.1) (mx t713 bt716.2)).bind fun bt718 => (some (bt718.1, bt718.2.1, bt718.2.2.1, bt718.2.2.2)))) = some (r1, r2, r3, r4) := H
      have A42 := Aside0.mk A420
      clear A420
      replace H := Option.bind_eq_some_iff.mp H
      obtain ⟨⟨t716, t717⟩, A430, H⟩ := H
      replace H : ((imageeditorref02_of.f (mn t710 t714) (mx t711 t715) (mn t712 t716) (mx t713 t717)).bind fun bt718 => (some (bt718.1, bt718.2.1, bt718.2.2.1, bt718.2.2.2))) = some (r1, r2, r3, r4) := H
      have A43 := Aside0.mk A430
      clear A430
      obtain ⟨ji44, hji44⟩ : ∃ j_ : Int, (mn t710 t714) = j_ := ⟨_, rfl⟩
      replace H : ((imageeditorref02_of.f (ji44) (mx t711 t715) (mn t712 t716) (mx t713 t717)).bind fun bt718 => (some (bt718.1, bt718.2.1, bt718.2.2.1, bt718.2.2.2))) = some (r1, r2, r3, r4) := by first | (rw [hji44] at H; exact H) | (simp only [hji44] at H ⊢; exact H)
      (try rw [hji44] at A20)
      (try rw [hji44] at A29)
      (try rw [hji44] at A40)
      (try rw [hji44] at A41)
      (try rw [hji44] at A42)
      (try rw [hji44] at A43)
      have hji44_ : (if t714 < t710 then t714 else t710) = ji44 := hji44
      obtain ⟨ji45, hji45⟩ : ∃ j_ : Int, (mx t711 t715) = j_ := ⟨_, rfl⟩
      replace H : ((imageeditorref02_of.f (ji44) (ji45) (mn t712 t716) (mx t713 t717)).bind fun bt718 => (some (bt718.1, bt718.2.1, bt718.2.2.1, bt718.2.2.2))) = some (r1, r2, r3, r4) := by first | (rw [hji45] at H; exact H) | (simp only [hji45] at H ⊢; exact H)
      (try rw [hji45] at A20)
      (try rw [hji45] at A29)
      (try rw [hji45] at A40)
      (try rw [hji45] at A41)
      (try rw [hji45] at A42)
      (try rw [hji45] at A43)
      have hji45_ : (if t711 < t715 then t715 else t711) = ji45 := hji45
      obtain ⟨ji46, hji46⟩ : ∃ j_ : Int, (mn t712 t716) = j_ := ⟨_, rfl⟩
      replace H : ((imageeditorref02_of.f (ji44) (ji45) (ji46) (mx t713 t717)).bind fun bt718 => (some (bt718.1, bt718.2.1, bt718.2.2.1, bt718.2.2.2))) = some (r1, r2, r3, r4) := by first | (rw [hji46] at H; exact H) | (simp only [hji46] at H ⊢; exact H)
      (try rw [hji46] at A20)
      (try rw [hji46] at A29)
      (try rw [hji46] at A40)
      (try rw [hji46] at A41)
      (try rw [hji46] at A42)
      (try rw [hji46] at A43)
      have hji46_ : (if t716 < t712 then t716 else t712) = ji46 := hji46
      obtain ⟨ji47, hji47⟩ : ∃ j_ : Int, (mx t713 t717) = j_ := ⟨_, rfl⟩
      replace H : ((imageeditorref02_of.f (ji44) (ji45) (ji46) (ji47)).bind fun bt718 => (some (bt718.1, bt718.2.1, bt718.2.2.1, bt718.2.2.2))) = some (r1, r2, r3, r4) := by first | (rw [hji47] at H; exact H) | (simp only [hji47] at H ⊢; exact H)
      (try rw [hji47] at A20)
      (try rw [hji47] at A29)
      (try rw [hji47] at A40)
      (try rw [hji47] at A41)
      (try rw [hji47] at A42)
      (try rw [hji47] at A43)
      have hji47_ : (if t713 < t717 then t717 else t713) = ji47 := hji47
      replace H := Option.bind_eq_some_iff.mp H
      obtain ⟨⟨t718, t719, t720, t721⟩, A480, H⟩ := H
      replace H : (some (t718, t719, t720, t721)) = some (r1, r2, r3, r4) := H
      have A48 := Aside0.mk A480
      clear A480
      simp only [Option.some.injEq, Prod.mk.injEq] at H
      obtain ⟨rfl, rfl, rfl, rfl⟩ := H
      have hnb49 := NB703_704.out
      have hnc49 := NB704_703.out
      have hnb50 := NB703_705.out
      have hnc50 := NB705_703.out
      obtain ⟨hcz51_0, hcz51_1, hcz51_2, hcz51_3, hfz51_0, hfz51_1, hfz51_2, hfz51_3⟩ := zq4 BK703
      go_wp2_with (first | ((with_reducible refine gate_callee (f := 49) rfl ?_); refine goesL_ (some 21) rfl rfl Try.func49 (by kernel_rfl) rfl #[.agg #[.int .i64 a0_0, .int .i64 a0_1, .int .i64 a0_2, .int .i64 a0_3]] rfl (by (try simp only [List.map_toArray, List.map_cons, List.map_nil]); first | done | rfl | (simp only [List.length_drop, List.length_take]; rfl)) ?_; (with_reducible refine (imageeditorref02_Empty.calls a0_0 a0_1 a0_2 a0_3 false _ A20.out).mono ?_); rintro e w52 ⟨rfl, hb⟩; refine ⟨_, rfl, ?_⟩; replace BK703 := zk BK703 hb; replace BK704 := zk BK704 hb; replace BK705 := zk BK705 hb; replace HB := zb HB hb; (try clear hb); (try clear hb2); (try clear hk); (try clear hi); have hnb53 := NB704_705.out; have hnc53 := NB705_704.out; obtain ⟨hcz54_0, hcz54_1, hcz54_2, hcz54_3, hfz54_0, hfz54_1, hfz54_2, hfz54_3⟩ := zq4 BK704) | ((with_reducible refine gate_callee (f := 49) rfl ?_); refine goesL_ (some 24) rfl rfl Try.func49 (by kernel_rfl) rfl #[.agg #[.int .i64 a1_0, .int .i64 a1_1, .int .i64 a1_2, .int .i64 a1_3]] rfl (by (try simp only [List.map_toArray, List.map_cons, List.map_nil]); first | done | rfl | (simp only [List.length_drop, List.length_take]; rfl)) ?_; (with_reducible refine (imageeditorref02_Empty.calls a1_0 a1_1 a1_2 a1_3 false _ A29.out).mono ?_); rintro e w55 ⟨rfl, hb⟩; refine ⟨_, rfl, ?_⟩; replace BK703 := zk BK703 hb; replace BK704 := zk BK704 hb; replace BK705 := zk BK705 hb; replace HB := zb HB hb; (try clear hb); (try clear hb2); (try clear hk); (try clear hi); obtain ⟨hcz56_0, hcz56_1, hcz56_2, hcz56_3, hfz56_0, hfz56_1, hfz56_2, hfz56_3⟩ := zq4 BK703) | ((with_reducible refine gate_callee (f := 61) rfl ?_); refine goesL_ (some 28) rfl rfl Try.func61 (by kernel_rfl) rfl #[.agg #[.int .i64 a0_0, .int .i64 a0_1, .int .i64 a0_2, .int .i64 a0_3], .int .i64 0] rfl (by (try simp only [List.map_toArray, List.map_cons, List.map_nil]); first | done | rfl | (simp only [List.length_drop, List.length_take]; rfl)) ?_; (with_reducible refine (imageeditorref02_span.calls kj2 a0_0 a0_1 a0_2 a0_3 0 t710 t711 _ A40.out).mono ?_); rintro e w57 ⟨rfl, hb⟩; refine ⟨_, rfl, ?_⟩; replace BK703 := zk BK703 hb; replace BK704 := zk BK704 hb; replace BK705 := zk BK705 hb; replace HB := zb HB hb; (try clear hb); (try clear hb2); (try clear hk); (try clear hi); obtain ⟨hcz58_0, hcz58_1, hcz58_2, hcz58_3, hfz58_0, hfz58_1, hfz58_2, hfz58_3⟩ := zq4 BK703) | ((with_reducible refine gate_callee (f := 61) rfl ?_); refine goesL_ (some 33) rfl rfl Try.func61 (by kernel_rfl) rfl #[.agg #[.int .i64 a0_0, .int .i64 a0_1, .int .i64 a0_2, .int .i64 a0_3], .int .i64 1] rfl (by (try simp only [List.map_toArray, List.map_cons, List.map_nil]); first | done | rfl | (simp only [List.length_drop, List.length_take]; rfl)) ?_; (with_reducible refine (imageeditorref02_span.calls kj2 a0_0 a0_1 a0_2 a0_3 1 t712 t713 _ A41.out).mono ?_); rintro e w59 ⟨rfl, hb⟩; refine ⟨_, rfl, ?_⟩; replace BK703 := zk BK703 hb; replace BK704 := zk BK704 hb; replace BK705 := zk BK705 hb; replace HB := zb HB hb; (try clear hb); (try clear hb2); (try clear hk); (try clear hi); obtain ⟨hcz60_0, hcz60_1, hcz60_2, hcz60_3, hfz60_0, hfz60_1, hfz60_2, hfz60_3⟩ := zq4 BK704) | ((with_reducible refine gate_callee (f := 61) rfl ?_); refine goesL_ (some 38) rfl rfl Try.func61 (by kernel_rfl) rfl #[.agg #[.int .i64 a1_0, .int .i64 a1_1, .int .i64 a1_2, .int .i64 a1_3], .int .i64 0] rfl (by (try simp only [List.map_toArray, List.map_cons, List.map_nil]); first | done | rfl | (simp only [List.length_drop, List.length_take]; rfl)) ?_; (with_reducible refine (imageeditorref02_span.calls kj2 a1_0 a1_1 a1_2 a1_3 0 t714 t715 _ A42.out).mono ?_); rintro e w61 ⟨rfl, hb⟩; refine ⟨_, rfl, ?_⟩; replace BK703 := zk BK703 hb; replace BK704 := zk BK704 hb; replace BK705 := zk BK705 hb; replace HB := zb HB hb; (try clear hb); (try clear hb2); (try clear hk); (try clear hi); obtain ⟨hcz62_0, hcz62_1, hcz62_2, hcz62_3, hfz62_0, hfz62_1, hfz62_2, hfz62_3⟩ := zq4 BK704) | ((with_reducible refine gate_callee (f := 61) rfl ?_); refine goesL_ (some 43) rfl rfl Try.func61 (by kernel_rfl) rfl #[.agg #[.int .i64 a1_0, .int .i64 a1_1, .int .i64 a1_2, .int .i64 a1_3], .int .i64 1] rfl (by (try simp only [List.map_toArray, List.map_cons, List.map_nil]); first | done | rfl | (simp only [List.length_drop, List.length_take]; rfl)) ?_; (with_reducible refine (imageeditorref02_span.calls kj2 a1_0 a1_1 a1_2 a1_3 1 t716 t717 _ A43.out).mono ?_); rintro e w63 ⟨rfl, hb⟩; refine ⟨_, rfl, ?_⟩; replace BK703 := zk BK703 hb; replace BK704 := zk BK704 hb; replace BK705 := zk BK705 hb; replace HB := zb HB hb; (try clear hb); (try clear hb2); (try clear hk); (try clear hi)) | ((with_reducible refine gate_callee (f := 62) rfl ?_); refine goesL_ (some 58) rfl rfl Try.func62 (by kernel_rfl) rfl #[.int .i64 ji44, .int .i64 ji45, .int .i64 ji46, .int .i64 ji47] rfl (by (try simp only [List.map_toArray, List.map_cons, List.map_nil]); first | done | (simp only [hji44, hji45, hji46, hji47]; rfl) | rfl | (simp only [List.length_drop, List.length_take]; rfl)) ?_; (with_reducible refine (imageeditorref02_of.calls ji44 ji45 ji46 ji47 t718 t719 t720 t721 _ A48.out).mono ?_); rintro e w64 ⟨rfl, hb⟩; refine ⟨_, rfl, ?_⟩; replace BK703 := zk BK703 hb; replace BK704 := zk BK704 hb; replace BK705 := zk BK705 hb; replace HB := zb HB hb; (try clear hb); (try clear hb2); (try clear hk); (try clear hi); obtain ⟨hcz65_0, hcz65_1, hcz65_2, hcz65_3, hfz65_0, hfz65_1, hfz65_2, hfz65_3⟩ := zq4 BK705))
      refine bodyPost_ret (results_cell_row rfl _ _ gb705 37 #[.int .i64 t718, .int .i64 t719, .int .i64 t720, .int .i64 t721] (0, 0) _ rfl (by exact zp BK705 rfl) Try.underlying37 rfl (by kernel_rfl)) rfl ?_
      exact ⟨by first | rfl | (simp [errW_none, errW_some] <;> rfl) | (simp only [← hji44, ← hji45, ← hji46, ← hji47]; first | rfl | (simp [errW_none, errW_some] <;> rfl)) | (simp [*, errW_none, errW_some] <;> rfl), by exact zbo HB GE705⟩

/-! ### imageeditorref11_Box: function 34 -/
mutual
def imageeditorref11_Box.l0 : Nat → Int → Int → Int → List (S26) → Int → Int → Int → Int → Option (Int × Int × Int × Int)
 | 0, _, _, _, _, _, _, _, _ => none
 | k + 1, x4, x723000, x723001, x723002, x726000, x726001, x726002, x726003 => if x4 < x723001 then (imageeditorref11_Box.l1 k x4 0 x723000 x723001 x723002 x726000 x726001 x726002 x726003) else (some (x726000, x726001, x726002, x726003))
def imageeditorref11_Box.l1 : Nat → Int → Int → Int → Int → List (S26) → Int → Int → Int → Int → Option (Int × Int × Int × Int)
 | 0, _, _, _, _, _, _, _, _, _ => none
 | k + 1, x4, x5, x723000, x723001, x723002, x726000, x726001, x726002, x726003 => if x5 < x723000 then ((imageeditorref11_Pick.f x723000 x723001 x723002 x5 x4).bind fun bt726 => (if bt726.2.2.2 = 0 then (imageeditorref11_Box.l1 k x4 (wrap64 (x5 + 1)) x723000 x723001 x723002 x726000 x726001 x726002 x726003) else ((imageeditorref02_Join.f k x726000 x726001 x726002 x726003 x5 x4 1 1).bind fun bt730 => (imageeditorref11_Box.l1 k x4 (wrap64 (x5 + 1)) x723000 x723001 x723002 bt730.1 bt730.2.1 bt730.2.2.1 bt730.2.2.2)))) else (imageeditorref11_Box.l0 k (wrap64 (x4 + 1)) x723000 x723001 x723002 x726000 x726001 x726002 x726003)
end
def imageeditorref11_Box.f (k : Nat) (a0_0 : Int) (a0_1 : Int) (l0_2 : List (S26)) : Option (Int × Int × Int × Int) := (imageeditorref11_Check.f k a0_0 a0_1 l0_2).bind fun t724 => (if t724 = 0 then (imageeditorref11_Box.l0 k 0 a0_0 a0_1 l0_2 0 0 0 0) else (some (0, 0, 0, 0)))
theorem imageeditorref11_Box.mono_l : ∀ k, (∀ y0 y1 y2 y3 y4 y5 y6 y7, LeO (imageeditorref11_Box.l0 k y0 y1 y2 y3 y4 y5 y6 y7) (imageeditorref11_Box.l0 (k + 1) y0 y1 y2 y3 y4 y5 y6 y7)) ∧ (∀ y0 y1 y2 y3 y4 y5 y6 y7 y8, LeO (imageeditorref11_Box.l1 k y0 y1 y2 y3 y4 y5 y6 y7 y8) (imageeditorref11_Box.l1 (k + 1) y0 y1 y2 y3 y4 y5 y6 y7 y8))
 | 0 => ⟨fun _ _ _ _ _ _ _ _ r h => by simp [imageeditorref11_Box.l0] at h, fun _ _ _ _ _ _ _ _ _ r h => by simp [imageeditorref11_Box.l1] at h⟩
 | k + 1 => by
  obtain ⟨ih0, ih1⟩ := imageeditorref11_Box.mono_l k
  refine ⟨?_, ?_⟩
  ·intro y0 y1 y2 y3 y4 y5 y6 y7
   unfold imageeditorref11_Box.l0
   repeat' first
   | (with_reducible exact ih0 _ _ _ _ _ _ _ _)
   | (with_reducible exact ih1 _ _ _ _ _ _ _ _ _)
   | (with_reducible exact imageeditorref02_Join.mono _ _ _ _ _ _ _ _ _)
   | (with_reducible exact imageeditorref11_Check.mono _ _ _ _)
   | (with_reducible exact LeO.refl _)
   | (with_reducible exact LeO.none _)
   | (with_reducible refine LeO.ite ?_ ?_)
   | (with_reducible refine LeO.bind ?_ (fun _ => ?_))
   | exact ih0 _ _ _ _ _ _ _ _
   | exact ih1 _ _ _ _ _ _ _ _ _
   | exact imageeditorref02_Join.mono _ _ _ _ _ _ _ _ _
   | exact imageeditorref11_Check.mono _ _ _ _
   | exact LeO.none _
   | refine LeO.ite ?_ ?_
   | refine LeO.bind ?_ (fun _ => ?_)
  ·intro y0 y1 y2 y3 y4 y5 y6 y7 y8
   unfold imageeditorref11_Box.l1
   repeat' first
   | (with_reducible exact ih0 _ _ _ _ _ _ _ _)
   | (with_reducible exact ih1 _ _ _ _ _ _ _ _ _)
   | (with_reducible exact imageeditorref02_Join.mono _ _ _ _ _ _ _ _ _)
   | (with_reducible exact imageeditorref11_Check.mono _ _ _ _)
   | (with_reducible exact LeO.refl _)
   | (with_reducible exact LeO.none _)
   | (with_reducible refine LeO.ite ?_ ?_)
   | (with_reducible refine LeO.bind ?_ (fun _ => ?_))
   | exact ih0 _ _ _ _ _ _ _ _
   | exact ih1 _ _ _ _ _ _ _ _ _
   | exact imageeditorref02_Join.mono _ _ _ _ _ _ _ _ _
   | exact imageeditorref11_Check.mono _ _ _ _
   | exact LeO.none _
   | refine LeO.ite ?_ ?_
   | refine LeO.bind ?_ (fun _ => ?_)
theorem imageeditorref11_Box.mono : ∀ a0 a1 a2 k, LeO (imageeditorref11_Box.f k a0 a1 a2) (imageeditorref11_Box.f (k + 1) a0 a1 a2) := by
 intro a0 a1 a2 k
 obtain ⟨ih0, ih1⟩ := imageeditorref11_Box.mono_l k
 unfold imageeditorref11_Box.f
 repeat' first
   | (with_reducible exact ih0 _ _ _ _ _ _ _ _)
   | (with_reducible exact ih1 _ _ _ _ _ _ _ _ _)
   | (with_reducible exact imageeditorref02_Join.mono _ _ _ _ _ _ _ _ _)
   | (with_reducible exact imageeditorref11_Check.mono _ _ _ _)
   | (with_reducible exact LeO.refl _)
   | (with_reducible exact LeO.none _)
   | (with_reducible refine LeO.ite ?_ ?_)
   | (with_reducible refine LeO.bind ?_ (fun _ => ?_))
   | exact ih0 _ _ _ _ _ _ _ _
   | exact ih1 _ _ _ _ _ _ _ _ _
   | exact imageeditorref02_Join.mono _ _ _ _ _ _ _ _ _
   | exact imageeditorref11_Check.mono _ _ _ _
   | exact LeO.none _
   | refine LeO.ite ?_ ?_
   | refine LeO.bind ?_ (fun _ => ?_)
set_option maxHeartbeats 8000000 in
set_option maxRecDepth 100000 in
theorem imageeditorref11_Box.calls (k : Nat) (a0_0 : Int) (a0_1 : Int) (A0_2 : Option Addr) (c0_2 : Nat) (l0_2 : List (S26)) (r1 : Int) (r2 : Int) (r3 : Int) (r4 : Int) (w : World) (hr0_2 : Kd.C k26 w A0_2 l0_2.length l0_2) (hc0_2 : l0_2.length ≤ c0_2) (h : imageeditorref11_Box.f k a0_0 a0_1 l0_2 = some (r1, r2, r3, r4)) :
  Calls Try.prog 34 #[.agg #[.int .i64 a0_0, .int .i64 a0_1, .slice A0_2 l0_2.length c0_2]] w fun e w' => e = .returned (.agg #[.int .i64 r1, .int .i64 r2, .int .i64 r3, .int .i64 r4]) ∧ Below w.heap.size w w' := by
 have hfd26_3 : ∀ (e0 e1 e2 e3 : Value) (w : World), (Instr.field 26 (.agg #[e0, e1, e2, e3]) 3).run Try.prog w = .ok e3 w := fun _ _ _ _ _ => by kernel_rfl
 have hu24 := Try.underlying24
 have hu37 := Try.underlying37
 have hu26 := Try.underlying26
 have HR0_2 := Aside0.mk hr0_2
 have HC0_2 := Aside0.mk hc0_2
 clear hr0_2 hc0_2
 have HB := Aside0.mk (Below.refl w.heap.size w)
 have H : ((imageeditorref11_Check.f k a0_0 a0_1 l0_2).bind fun t724 => (if t724 = 0 then (imageeditorref11_Box.l0 k 0 a0_0 a0_1 l0_2 0 0 0 0) else (some (0, 0, 0, 0)))) = some (r1, r2, r3, r4) := h
 clear h
 replace H := Option.bind_eq_some_iff.mp H
 obtain ⟨t724, A20, H⟩ := H
 replace H : (if t724 = 0 then (imageeditorref11_Box.l0 k 0 a0_0 a0_1 l0_2 0 0 0 0) else (some (0, 0, 0, 0))) = some (r1, r2, r3, r4) := H
 have A2 := Aside0.mk A20
 clear A20
 by_cases c3 : t724 = 0
 ·rw [if_pos c3] at H
  have c3b0 : (t724 == 0) = true := beq_iff_eq.mpr c3
  have c3b1 : (t724 != 0) = false := bne_eq_false_iff_eq.mpr c3
  clear c3
  have H' := Aside0.mk H
  clear H
  go_enter Try.func34, Try.ntmps34
  go_wp2_with (first | ((with_reducible refine gate_dst (N := 1) rfl ?_); refine box_event ?hg (N := 1) ?hd (cs := #[.int .i64 a0_0, .int .i64 a0_1, .slice A0_2 l0_2.length c0_2]) (t := 24) ?hr ?_; (case hd => rfl); (case hg => rfl); (case hr => first | (go_simp; done) | (go_simp; rfl)); intro gb722 hg w4 hbox hb; have GW722 := zg HB hg; have GE722 := zg HB hg; have n0_ := Aside0.mk (hbox); replace HB := zb HB hb; have BK722 := n0_; clear n0_; clear hb hbox hg) | ((with_reducible refine gate_dst (N := 2) rfl ?_); refine box_event ?hg (N := 2) ?hd (cs := #[.int .i64 0, .int .i64 0, .int .i64 0, .int .i64 0]) (t := 37) ?hr ?_; (case hd => rfl); (case hg => rfl); (case hr => first | (go_simp; done) | (go_simp; rfl)); intro gb723 hg w5 hbox hb; have GW723 := zg HB hg; have GE723 := zg HB hg; have NB722_723 := zn BK722 hg; have NB723_722 := zn' BK722 hg; have n0_ := Aside0.mk (hbox); replace BK722 := zk BK722 hb; replace HB := zb HB hb; have BK723 := n0_; clear n0_; clear hb hbox hg; have hnb6 := NB722_723.out; have hnc6 := NB723_722.out; obtain ⟨hcz7_0, hcz7_1, hcz7_2, hfz7_0, hfz7_1, hfz7_2⟩ := zq3 BK722) | ((with_reducible refine gate_callee (f := 19) rfl ?_); refine goesL_ (some 7) rfl rfl Try.func19 (by kernel_rfl) rfl #[.agg #[.int .i64 a0_0, .int .i64 a0_1, .slice A0_2 l0_2.length c0_2]] rfl (by (try simp only [List.map_toArray, List.map_cons, List.map_nil]); first | done | rfl | (simp only [List.length_drop, List.length_take]; rfl)) ?_; (with_reducible refine (imageeditorref11_Check.calls k a0_0 a0_1 _ _ l0_2 t724 _ ?side1 ?side2 A2.out).mono ?_); (case side1 => repeat (first | exact (Kd.C_below HR0_2.out HB.out) | (with_reducible refine Kd.C_alloc ?_ _) | (with_reducible refine Kd.C_drewN ?_ _) | (with_reducible refine Kd.C_drew ?_))); (case side2 => exact HC0_2.out); rintro e w8 ⟨rfl, hb⟩; refine ⟨_, rfl, ?_⟩; replace BK722 := zk BK722 hb; replace BK723 := zk BK723 hb; replace HB := zb HB hb; (try clear hb); (try clear hb2); (try clear hk); (try clear hi)) | ((with_reducible refine gate_dst (N := 3) rfl ?_); refine box_event ?hg (N := 3) ?hd (cs := #[.int .i64 0, .int .i64 0, .int .i64 0, .int .i64 0]) (t := 37) ?hr ?_; (case hd => rfl); (case hg => rfl); (case hr => first | (go_simp; done) | (go_simp; rfl)); intro gb725 hg w9 hbox hb; have GW725 := zg HB hg; have GE725 := zg HB hg; have NB722_725 := zn BK722 hg; have NB725_722 := zn' BK722 hg; have NB723_725 := zn BK723 hg; have NB725_723 := zn' BK723 hg; have n0_ := Aside0.mk (hbox); replace BK722 := zk BK722 hb; replace BK723 := zk BK723 hb; replace HB := zb HB hb; have BK725 := n0_; clear n0_; clear hb hbox hg; have hnb10 := NB725_722.out; have hnc10 := NB722_725.out; have hnb11 := NB725_723.out; have hnc11 := NB723_725.out; obtain ⟨hcz12_0, hcz12_1, hcz12_2, hcz12_3, hfz12_0, hfz12_1, hfz12_2, hfz12_3⟩ := zq4 BK725))
  (try simp only [Act.put, sA, sB, sC])
  go_loopg [4] k (fun kq v4 w' => ∃ (x4_1 : Int) (x726000_1 : Int) (x726001_1 : Int) (x726002_1 : Int) (x726003_1 : Int), v4 = .int .i64 x4_1 ∧ Aside0 (imageeditorref11_Box.l0 kq x4_1 a0_0 a0_1 l0_2 x726000_1 x726001_1 x726002_1 x726003_1 = some (r1, r2, r3, r4)) ∧ Aside0 (kq ≤ k) ∧ Aside0 (w'.heap[gb722]? = some (.cells #[.int .i64 a0_0, .int .i64 a0_1, (.slice A0_2 l0_2.length c0_2)] 24 (0, 0))) ∧ Aside0 (w'.heap[gb723]? = some (.cells #[.int .i64 0, .int .i64 0, .int .i64 0, .int .i64 0] 37 (0, 0))) ∧ Aside0 (w'.heap[gb725]? = some (.cells #[.int .i64 x726000_1, .int .i64 x726001_1, .int .i64 x726002_1, .int .i64 x726003_1] 37 (0, 0))) ∧ Aside0 (Below w.heap.size w w'))
  case atStart => exact ⟨(0), (0), (0), (0), (0), (by first | rfl | (simp; done) | (simp [*]; done)), H', ⟨Nat.le_refl _⟩, ⟨by exact zf BK722 NB722_725⟩, ⟨by exact zf BK723 NB723_725⟩, ⟨by exact zp BK725 rfl⟩, ⟨by exact zbo HB GE725⟩⟩
  case round =>
   clear H'
   try clear c1
   try clear p2
   try clear c3
   try clear c3b0
   try clear c3b1
   try clear q3
   try clear q4
   try clear c6
   try clear c10
   try clear c11
   try clear hcz12_0
   try clear hcz12_1
   try clear hcz12_2
   try clear hcz12_3
   try clear hcz7_0
   try clear hcz7_1
   try clear hcz7_2
   try clear hfz12_0
   try clear hfz12_1
   try clear hfz12_2
   try clear hfz12_3
   try clear hfz7_0
   try clear hfz7_1
   try clear hfz7_2
   obtain ⟨x4_1, x726000_1, x726001_1, x726002_1, x726003_1, rfl, HA, HK1, BK722, BK723, BK725, HB⟩ := hrel
   cases gk with
   | zero => exact absurd HA.out (by simp [imageeditorref11_Box.l0])
   | succ k1 =>
    have H := HA.out
    clear HA
    simp only [imageeditorref11_Box.l0] at H
    by_cases c13 : x4_1 < a0_1
    ·rw [if_pos c13] at H
     have c13b0 : decide (x4_1 < a0_1) = true := decide_eq_true c13
     clear c13
     have H' := Aside0.mk H
     clear H
     obtain ⟨hcz14_0, hcz14_1, hcz14_2, hfz14_0, hfz14_1, hfz14_2⟩ := zq3 BK722
     go_wp2
     go_loopg [5] k1 (fun kq v5 w' => ∃ (x5_2 : Int) (x726000_2 : Int) (x726001_2 : Int) (x726002_2 : Int) (x726003_2 : Int), v5 = .int .i64 x5_2 ∧ Aside0 (imageeditorref11_Box.l1 kq x4_1 x5_2 a0_0 a0_1 l0_2 x726000_2 x726001_2 x726002_2 x726003_2 = some (r1, r2, r3, r4)) ∧ Aside0 (kq ≤ k1) ∧ Aside0 (w'.heap[gb722]? = some (.cells #[.int .i64 a0_0, .int .i64 a0_1, (.slice A0_2 l0_2.length c0_2)] 24 (0, 0))) ∧ Aside0 (w'.heap[gb723]? = some (.cells #[.int .i64 0, .int .i64 0, .int .i64 0, .int .i64 0] 37 (0, 0))) ∧ Aside0 (w'.heap[gb725]? = some (.cells #[.int .i64 x726000_2, .int .i64 x726001_2, .int .i64 x726002_2, .int .i64 x726003_2] 37 (0, 0))) ∧ Aside0 (Below w.heap.size w w'))
     case atStart => exact ⟨(0), (x726000_1), (x726001_1), (x726002_1), (x726003_1), (by first | rfl | (simp; done) | (simp [*]; done)), H', ⟨Nat.le_refl _⟩, ⟨by exact zk0 BK722⟩, ⟨by exact zk0 BK723⟩, ⟨by exact zk0 BK725⟩, ⟨by exact zb0 HB⟩⟩
     case round =>
      clear H'
      try clear c1
      try clear p2
      try clear c3
      try clear c3b0
      try clear c3b1
      try clear q3
      try clear q4
      try clear c6
      try clear c10
      try clear c11
      try clear c13
      try clear c13b0
      try clear hcz12_0
      try clear hcz12_1
      try clear hcz12_2
      try clear hcz12_3
      try clear hcz14_0
      try clear hcz14_1
      try clear hcz14_2
      try clear hcz7_0
      try clear hcz7_1
      try clear hcz7_2
      try clear hfz12_0
      try clear hfz12_1
      try clear hfz12_2
      try clear hfz12_3
      try clear hfz14_0
      try clear hfz14_1
      try clear hfz14_2
      try clear hfz7_0
      try clear hfz7_1
      try clear hfz7_2
      try clear p2
      try clear q3
      try clear q4
      obtain ⟨x5_2, x726000_2, x726001_2, x726002_2, x726003_2, rfl, HA, HK2, BK722, BK723, BK725, HB⟩ := hrel
      cases gk with
      | zero => exact absurd HA.out (by simp [imageeditorref11_Box.l1])
      | succ k2 =>
       have H := HA.out
       clear HA
       simp only [imageeditorref11_Box.l1] at H
       by_cases c15 : x5_2 < a0_0
       ·rw [if_pos c15] at H
        have c15b0 : decide (x5_2 < a0_0) = true := decide_eq_true c15
        clear c15
        replace H := Option.bind_eq_some_iff.mp H
        obtain ⟨⟨t726, t727, t728, t729⟩, A160, H⟩ := H
        replace H : (if t729 = 0 then (imageeditorref11_Box.l1 k2 x4_1 (wrap64 (x5_2 + 1)) a0_0 a0_1 l0_2 x726000_2 x726001_2 x726002_2 x726003_2) else ((imageeditorref02_Join.f k2 x726000_2 x726001_2 x726002_2 x726003_2 x5_2 x4_1 1 1).bind fun bt730 => (imageeditorref11_Box.l1 k2 x4_1 (wrap64 (x5_2 + 1)) a0_0 a0_1 l0_2 bt730.1 bt730.2.1 bt730.2.2.1 bt730.2.2.2))) = some (r1, r2, r3, r4) := H
        have A16 := Aside0.mk A160
        clear A160
        by_cases c17 : t729 = 0
        ·rw [if_pos c17] at H
         have c17b0 : (t729 == 0) = true := beq_iff_eq.mpr c17
         have c17b1 : (t729 != 0) = false := bne_eq_false_iff_eq.mpr c17
         clear c17
         have H' := Aside0.mk H
         clear H
         obtain ⟨hcz18_0, hcz18_1, hcz18_2, hfz18_0, hfz18_1, hfz18_2⟩ := zq3 BK722
         go_wp2_with (first | ((with_reducible refine gate_callee (f := 44) rfl ?_); refine goesL_ (some 26) rfl rfl Try.func44 (by kernel_rfl) rfl #[.agg #[.int .i64 a0_0, .int .i64 a0_1, .slice A0_2 l0_2.length c0_2], .int .i64 x5_2, .int .i64 x4_1] rfl (by (try simp only [List.map_toArray, List.map_cons, List.map_nil]); first | done | rfl | (simp only [List.length_drop, List.length_take]; rfl)) ?_; (with_reducible refine (imageeditorref11_Pick.calls a0_0 a0_1 _ _ l0_2 x5_2 x4_1 t726 t727 t728 t729 _ ?side1 ?side2 A16.out).mono ?_); (case side1 => repeat (first | exact (Kd.C_below HR0_2.out HB.out) | (with_reducible refine Kd.C_alloc ?_ _) | (with_reducible refine Kd.C_drewN ?_ _) | (with_reducible refine Kd.C_drew ?_))); (case side2 => exact HC0_2.out); rintro e w19 ⟨rfl, hb⟩; refine ⟨_, rfl, ?_⟩; replace BK722 := zk BK722 hb; replace BK723 := zk BK723 hb; replace BK725 := zk BK725 hb; replace HB := zb HB hb; (try clear hb); (try clear hb2); (try clear hk); (try clear hi)))
         go_roundg k2
         case measure => have := HK1.out; have := HK2.out; omega
         case rel => exact ⟨(wrap64 (x5_2 + 1)), (x726000_2), (x726001_2), (x726002_2), (x726003_2), (by first | rfl | (simp; done) | (simp [*]; done)), H', ⟨by have := HK1.out; have := HK2.out; omega⟩, ⟨by exact zk0 BK722⟩, ⟨by exact zk0 BK723⟩, ⟨by exact zk0 BK725⟩, ⟨by exact zb0 HB⟩⟩
        ·rw [if_neg c17] at H
         have c17b0 : (t729 == 0) = false := beq_eq_false_iff_ne.mpr c17
         have c17b1 : (t729 != 0) = true := bne_iff_ne.mpr c17
         replace H := Option.bind_eq_some_iff.mp H
         obtain ⟨⟨t730, t731, t732, t733⟩, A200, H⟩ := H
         replace H : (imageeditorref11_Box.l1 k2 x4_1 (wrap64 (x5_2 + 1)) a0_0 a0_1 l0_2 t730 t731 t732 t733) = some (r1, r2, r3, r4) := H
         have A20 := Aside0.mk A200
         clear A200
         have H' := Aside0.mk H
         clear H
         have hnb21 := NB722_723.out
         have hnc21 := NB723_722.out
         have hnb22 := NB722_725.out
         have hnc22 := NB725_722.out
         obtain ⟨hcz23_0, hcz23_1, hcz23_2, hfz23_0, hfz23_1, hfz23_2⟩ := zq3 BK722
         go_wp2_with (first | ((with_reducible refine gate_callee (f := 44) rfl ?_); refine goesL_ (some 26) rfl rfl Try.func44 (by kernel_rfl) rfl #[.agg #[.int .i64 a0_0, .int .i64 a0_1, .slice A0_2 l0_2.length c0_2], .int .i64 x5_2, .int .i64 x4_1] rfl (by (try simp only [List.map_toArray, List.map_cons, List.map_nil]); first | done | rfl | (simp only [List.length_drop, List.length_take]; rfl)) ?_; (with_reducible refine (imageeditorref11_Pick.calls a0_0 a0_1 _ _ l0_2 x5_2 x4_1 t726 t727 t728 t729 _ ?side1 ?side2 A16.out).mono ?_); (case side1 => repeat (first | exact (Kd.C_below HR0_2.out HB.out) | (with_reducible refine Kd.C_alloc ?_ _) | (with_reducible refine Kd.C_drewN ?_ _) | (with_reducible refine Kd.C_drew ?_))); (case side2 => exact HC0_2.out); rintro e w24 ⟨rfl, hb⟩; refine ⟨_, rfl, ?_⟩; replace BK722 := zk BK722 hb; replace BK723 := zk BK723 hb; replace BK725 := zk BK725 hb; replace HB := zb HB hb; (try clear hb); (try clear hb2); (try clear hk); (try clear hi); have hnb25 := NB725_723.out; have hnc25 := NB723_725.out; obtain ⟨hcz26_0, hcz26_1, hcz26_2, hcz26_3, hfz26_0, hfz26_1, hfz26_2, hfz26_3⟩ := zq4 BK725) | ((with_reducible refine gate_callee (f := 55) rfl ?_); refine goesL_ (some 33) rfl rfl Try.func55 (by kernel_rfl) rfl #[.agg #[.int .i64 x726000_2, .int .i64 x726001_2, .int .i64 x726002_2, .int .i64 x726003_2], .agg #[.int .i64 x5_2, .int .i64 x4_1, .int .i64 1, .int .i64 1]] rfl (by (try simp only [List.map_toArray, List.map_cons, List.map_nil]); first | done | rfl | (simp only [List.length_drop, List.length_take]; rfl)) ?_; (with_reducible refine (imageeditorref02_Join.calls k2 x726000_2 x726001_2 x726002_2 x726003_2 x5_2 x4_1 1 1 t730 t731 t732 t733 _ A20.out).mono ?_); rintro e w27 ⟨rfl, hb⟩; refine ⟨_, rfl, ?_⟩; replace BK722 := zk BK722 hb; replace BK723 := zk BK723 hb; replace BK725 := zk BK725 hb; replace HB := zb HB hb; (try clear hb); (try clear hb2); (try clear hk); (try clear hi); obtain ⟨hcz28_0, hcz28_1, hcz28_2, hcz28_3, hfz28_0, hfz28_1, hfz28_2, hfz28_3⟩ := zq4 BK725))
         go_roundg k2
         case measure => have := HK1.out; have := HK2.out; omega
         case rel => exact ⟨(wrap64 (x5_2 + 1)), (t730), (t731), (t732), (t733), (by first | rfl | (simp; done) | (simp [*]; done)), H', ⟨by have := HK1.out; have := HK2.out; omega⟩, ⟨by exact zf BK722 NB722_725⟩, ⟨by exact zf BK723 NB723_725⟩, ⟨by exact zp BK725 rfl⟩, ⟨by exact zbo HB GE725⟩⟩
       ·rw [if_neg c15] at H
        have c15b0 : decide (x5_2 < a0_0) = false := decide_eq_false c15
        clear c15
        have H' := Aside0.mk H
        clear H
        obtain ⟨hcz29_0, hcz29_1, hcz29_2, hfz29_0, hfz29_1, hfz29_2⟩ := zq3 BK722
        go_wp2
        go_roundg k2
        case measure => have := HK1.out; have := HK2.out; omega
        case rel => exact ⟨(wrap64 (x4_1 + 1)), (x726000_2), (x726001_2), (x726002_2), (x726003_2), (by first | rfl | (simp; done) | (simp [*]; done)), H', ⟨by have := HK1.out; have := HK2.out; omega⟩, ⟨by exact zk0 BK722⟩, ⟨by exact zk0 BK723⟩, ⟨by exact zk0 BK725⟩, ⟨by exact zb0 HB⟩⟩
    ·rw [if_neg c13] at H
     have c13b0 : decide (x4_1 < a0_1) = false := decide_eq_false c13
     clear c13
     simp only [Option.some.injEq, Prod.mk.injEq] at H
     obtain ⟨rfl, rfl, rfl, rfl⟩ := H
     have hnb30 := NB722_723.out
     have hnc30 := NB723_722.out
     have hnb31 := NB722_725.out
     have hnc31 := NB725_722.out
     obtain ⟨hcz32_0, hcz32_1, hcz32_2, hfz32_0, hfz32_1, hfz32_2⟩ := zq3 BK722
     have hnb33 := NB725_723.out
     have hnc33 := NB723_725.out
     obtain ⟨hcz34_0, hcz34_1, hcz34_2, hcz34_3, hfz34_0, hfz34_1, hfz34_2, hfz34_3⟩ := zq4 BK725
     obtain ⟨hcz35_0, hcz35_1, hcz35_2, hcz35_3, hfz35_0, hfz35_1, hfz35_2, hfz35_3⟩ := zq4 BK723
     go_wp2
     refine bodyPost_ret (results_cell_row rfl _ _ gb723 37 #[.int .i64 x726000_1, .int .i64 x726001_1, .int .i64 x726002_1, .int .i64 x726003_1] (0, 0) _ rfl (by exact zp BK723 rfl) Try.underlying37 rfl (by kernel_rfl)) rfl ?_
     exact ⟨by first | rfl | (simp [errW_none, errW_some] <;> rfl) | (simp [*, errW_none, errW_some] <;> rfl), by exact zbo HB GE723⟩
 ·rw [if_neg c3] at H
  have c3b0 : (t724 == 0) = false := beq_eq_false_iff_ne.mpr c3
  have c3b1 : (t724 != 0) = true := bne_iff_ne.mpr c3
  simp only [Option.some.injEq, Prod.mk.injEq] at H
  obtain ⟨rfl, rfl, rfl, rfl⟩ := H
  go_enter Try.func34, Try.ntmps34
  go_wp2_with (first | ((with_reducible refine gate_dst (N := 1) rfl ?_); refine box_event ?hg (N := 1) ?hd (cs := #[.int .i64 a0_0, .int .i64 a0_1, .slice A0_2 l0_2.length c0_2]) (t := 24) ?hr ?_; (case hd => rfl); (case hg => rfl); (case hr => first | (go_simp; done) | (go_simp; rfl)); intro gb722 hg w36 hbox hb; have GW722 := zg HB hg; have GE722 := zg HB hg; have n0_ := Aside0.mk (hbox); replace HB := zb HB hb; have BK722 := n0_; clear n0_; clear hb hbox hg) | ((with_reducible refine gate_dst (N := 2) rfl ?_); refine box_event ?hg (N := 2) ?hd (cs := #[.int .i64 0, .int .i64 0, .int .i64 0, .int .i64 0]) (t := 37) ?hr ?_; (case hd => rfl); (case hg => rfl); (case hr => first | (go_simp; done) | (go_simp; rfl)); intro gb723 hg w37 hbox hb; have GW723 := zg HB hg; have GE723 := zg HB hg; have NB722_723 := zn BK722 hg; have NB723_722 := zn' BK722 hg; have n0_ := Aside0.mk (hbox); replace BK722 := zk BK722 hb; replace HB := zb HB hb; have BK723 := n0_; clear n0_; clear hb hbox hg; have hnb38 := NB722_723.out; have hnc38 := NB723_722.out; obtain ⟨hcz39_0, hcz39_1, hcz39_2, hfz39_0, hfz39_1, hfz39_2⟩ := zq3 BK722) | ((with_reducible refine gate_callee (f := 19) rfl ?_); refine goesL_ (some 7) rfl rfl Try.func19 (by kernel_rfl) rfl #[.agg #[.int .i64 a0_0, .int .i64 a0_1, .slice A0_2 l0_2.length c0_2]] rfl (by (try simp only [List.map_toArray, List.map_cons, List.map_nil]); first | done | rfl | (simp only [List.length_drop, List.length_take]; rfl)) ?_; (with_reducible refine (imageeditorref11_Check.calls k a0_0 a0_1 _ _ l0_2 t724 _ ?side1 ?side2 A2.out).mono ?_); (case side1 => repeat (first | exact (Kd.C_below HR0_2.out HB.out) | (with_reducible refine Kd.C_alloc ?_ _) | (with_reducible refine Kd.C_drewN ?_ _) | (with_reducible refine Kd.C_drew ?_))); (case side2 => exact HC0_2.out); rintro e w40 ⟨rfl, hb⟩; refine ⟨_, rfl, ?_⟩; replace BK722 := zk BK722 hb; replace BK723 := zk BK723 hb; replace HB := zb HB hb; (try clear hb); (try clear hb2); (try clear hk); (try clear hi); obtain ⟨hcz41_0, hcz41_1, hcz41_2, hcz41_3, hfz41_0, hfz41_1, hfz41_2, hfz41_3⟩ := zq4 BK723))
  refine bodyPost_ret (results_cell_row rfl _ _ gb723 37 #[.int .i64 0, .int .i64 0, .int .i64 0, .int .i64 0] (0, 0) _ rfl (by exact zp BK723 rfl) Try.underlying37 rfl (by kernel_rfl)) rfl ?_
  exact ⟨by first | rfl | (simp [errW_none, errW_some] <;> rfl) | (simp [*, errW_none, errW_some] <;> rfl), by exact zbo HB GE723⟩

/-! ### imageeditorlaw11_RasterFlips: function 8 -/
def imageeditorlaw11_RasterFlips.f (k : Nat) (a0_0 : Int) (a0_1 : Int) (l0_2 : List (S26)) (a1 : Int) : Option (Bool) := (raster_Flip.f k a0_0 a0_1 l0_2 a1).bind fun bt735 => ((imageeditorref11_Flip.f k a0_0 a0_1 l0_2 a1).bind fun bt742 => ((imageeditorlaw11_awake.f k).bind fun t749 => (if t749 = true then (if bt735.2.2.2 = bt742.2.2.2 then ((imageeditorlaw11_same.f k bt735.1 bt735.2.1 bt735.2.2.1 bt742.1 bt742.2.1 bt742.2.2.1).bind fun t750 => (if t750 = true then ((raster_Box.f k a0_0 a0_1 l0_2).bind fun bt751 => ((imageeditorref11_Box.f k a0_0 a0_1 l0_2).bind fun bt755 => (some (bt751.1 == bt755.1 && (bt751.2.1 == bt755.2.1 && (bt751.2.2.1 == bt755.2.2.1 && (bt751.2.2.2 == bt755.2.2.2))))))) else (some false))) else (some false)) else (some false))))
theorem imageeditorlaw11_RasterFlips.mono : ∀ a0 a1 a2 a3 k, LeO (imageeditorlaw11_RasterFlips.f k a0 a1 a2 a3) (imageeditorlaw11_RasterFlips.f (k + 1) a0 a1 a2 a3) := by
 intro a0 a1 a2 a3 k
 unfold imageeditorlaw11_RasterFlips.f
 repeat' first
   | (with_reducible exact imageeditorlaw11_awake.mono _)
   | (with_reducible exact imageeditorlaw11_same.mono _ _ _ _ _ _ _)
   | (with_reducible exact imageeditorref11_Box.mono _ _ _ _)
   | (with_reducible exact imageeditorref11_Flip.mono _ _ _ _ _)
   | (with_reducible exact raster_Box.mono _ _ _ _)
   | (with_reducible exact raster_Flip.mono _ _ _ _ _)
   | (with_reducible exact LeO.refl _)
   | (with_reducible exact LeO.none _)
   | (with_reducible refine LeO.ite ?_ ?_)
   | (with_reducible refine LeO.bind ?_ (fun _ => ?_))
   | exact imageeditorlaw11_awake.mono _
   | exact imageeditorlaw11_same.mono _ _ _ _ _ _ _
   | exact imageeditorref11_Box.mono _ _ _ _
   | exact imageeditorref11_Flip.mono _ _ _ _ _
   | exact raster_Box.mono _ _ _ _
   | exact raster_Flip.mono _ _ _ _ _
   | exact LeO.none _
   | refine LeO.ite ?_ ?_
   | refine LeO.bind ?_ (fun _ => ?_)
def imageeditorlaw11_RasterFlips.T3 : Bool × List (List Nat × List Nat) := (true, [([], []), ([0, 0], [0]), ([1], [1]), ([1], [1]), ([2, 3, 1], [1, 2, 3]), ([1, 4], [1, 4]), ([5, 1], [5]), ([6], [6]), ([6], [6]), ([7, 8, 6, 6], [6, 7, 8]), ([6, 9], [6, 9]), ([10, 9], [10]), ([11], [11]), ([12, 11, 11], [11, 12]), ([11], [11]), ([14, 13, 11], [11, 14]), ([13, 15, 11], [11, 13, 15]), ([11, 16], [11, 16]), ([17, 15, 0, 1, 2, 3, 4, 5, 6, 7, 8, 9, 10, 11, 12, 13, 14, 15, 16, 17], [17])])
def imageeditorlaw11_RasterFlips.B3 : List Nat := [0, 1, 3, 3, 15, 31, 63, 127, 127, 511, 1023, 2047, 4095, 8191, 4095, 32767, 65535, 131071, 262143]
theorem imageeditorlaw11_RasterFlips.tab3 : rtab .any (opsOf Try.f8 3) = imageeditorlaw11_RasterFlips.T3 := by kernel_rfl
theorem imageeditorlaw11_RasterFlips.bits3 : waitsOk imageeditorlaw11_RasterFlips.T3.2 imageeditorlaw11_RasterFlips.B3 = true := by kernel_rfl
set_option maxHeartbeats 8000000 in
set_option maxRecDepth 100000 in
theorem imageeditorlaw11_RasterFlips.callsT (k : Nat) (a0_0 : Int) (a0_1 : Int) (A0_2 : Option Addr) (c0_2 : Nat) (l0_2 : List (S26)) (a1 : Int) (r : Bool) (w : World) (hr0_2 : Kd.C k26 w A0_2 l0_2.length l0_2) (hc0_2 : l0_2.length ≤ c0_2) (hT : r = true) (h : imageeditorlaw11_RasterFlips.f k a0_0 a0_1 l0_2 a1 = some r) :
  Calls Try.prog 8 #[.agg #[.int .i64 a0_0, .int .i64 a0_1, .slice A0_2 l0_2.length c0_2], .int .i64 a1] w fun e w' => e = .returned (.bool r) ∧ Below w.heap.size w w' := by
 have hu24 := Try.underlying24
 have HT := Aside0.mk hT
 clear hT
 have HR0_2 := Aside0.mk hr0_2
 have HC0_2 := Aside0.mk hc0_2
 clear hr0_2 hc0_2
 have HB := Aside0.mk (Below.refl w.heap.size w)
 have H : ((raster_Flip.f k a0_0 a0_1 l0_2 a1).bind fun bt735 => ((imageeditorref11_Flip.f k a0_0 a0_1 l0_2 a1).bind fun bt742 => ((imageeditorlaw11_awake.f k).bind fun t749 => (if t749 = true then (if bt735.2.2.2 = bt742.2.2.2 then ((imageeditorlaw11_same.f k bt735.1 bt735.2.1 bt735.2.2.1 bt742.1 bt742.2.1 bt742.2.2.1).bind fun t750 => (if t750 = true then ((raster_Box.f k a0_0 a0_1 l0_2).bind fun bt751 => ((imageeditorref11_Box.f k a0_0 a0_1 l0_2).bind fun bt755 => (some (bt751.1 == bt755.1 && (bt751.2.1 == bt755.2.1 && (bt751.2.2.1 == bt755.2.2.1 && (bt751.2.2.2 == bt755.2.2.2))))))) else (some false))) else (some false)) else (some false))))) = some r := h
 clear h
 replace H := Option.bind_eq_some_iff.mp H
 obtain ⟨⟨t735, t736, t737, t740⟩, A30, H⟩ := H
 replace H : ((imageeditorref11_Flip.f k a0_0 a0_1 l0_2 a1).bind fun bt742 => ((imageeditorlaw11_awake.f k).bind fun t749 => (if t749 = true then (if t740 = bt742.2.2.2 then ((imageeditorlaw11_same.f k t735 t736 t737 bt742.1 bt742.2.1 bt742.2.2.1).bind fun t750 => (if t750 = true then ((raster_Box.f k a0_0 a0_1 l0_2).bind fun bt751 => ((imageeditorref11_Box.f k a0_0 a0_1 l0_2).bind fun bt755 => (some (bt751.1 == bt755.1 && (bt751.2.1 == bt755.2.1 && (bt751.2.2.1 == bt755.2.2.1 && (bt751.2.2.2 == bt755.2.2.2))))))) else (some false))) else (some false)) else (some false)))) = some r := H
 have A3 := Aside0.mk A30
 clear A30
 replace H := Option.bind_eq_some_iff.mp H
 obtain ⟨⟨t742, t743, t744, t747⟩, A40, H⟩ := H
 replace H : ((imageeditorlaw11_awake.f k).bind fun t749 => (if t749 = true then (if t740 = t747 then ((imageeditorlaw11_same.f k t735 t736 t737 t742 t743 t744).bind fun t750 => (if t750 = true then ((raster_Box.f k a0_0 a0_1 l0_2).bind fun bt751 => ((imageeditorref11_Box.f k a0_0 a0_1 l0_2).bind fun bt755 => (some (bt751.1 == bt755.1 && (bt751.2.1 == bt755.2.1 && (bt751.2.2.1 == bt755.2.2.1 && (bt751.2.2.2 == bt755.2.2.2))))))) else (some false))) else (some false)) else (some false))) = some r := H
 have A4 := Aside0.mk A40
 clear A40
 replace H := Option.bind_eq_some_iff.mp H
 obtain ⟨t749, A50, H⟩ := H
 replace H : (if t749 = true then (if t740 = t747 then ((imageeditorlaw11_same.f k t735 t736 t737 t742 t743 t744).bind fun t750 => (if t750 = true then ((raster_Box.f k a0_0 a0_1 l0_2).bind fun bt751 => ((imageeditorref11_Box.f k a0_0 a0_1 l0_2).bind fun bt755 => (some (bt751.1 == bt755.1 && (bt751.2.1 == bt755.2.1 && (bt751.2.2.1 == bt755.2.2.1 && (bt751.2.2.2 == bt755.2.2.2))))))) else (some false))) else (some false)) else (some false)) = some r := H
 have A5 := Aside0.mk A50
 clear A50
 by_cases c6 : t749 = true
 ·subst c6
  have H1 : (if t740 = t747 then ((imageeditorlaw11_same.f k t735 t736 t737 t742 t743 t744).bind fun t750 => (if t750 = true then ((raster_Box.f k a0_0 a0_1 l0_2).bind fun bt751 => ((imageeditorref11_Box.f k a0_0 a0_1 l0_2).bind fun bt755 => (some (bt751.1 == bt755.1 && (bt751.2.1 == bt755.2.1 && (bt751.2.2.1 == bt755.2.2.1 && (bt751.2.2.2 == bt755.2.2.2))))))) else (some false))) else (some false)) = some r := by rw [if_pos rfl] at H; exact H
  clear H
  have H := H1
  clear H1
  by_cases c7 : t740 = t747
  ·rw [if_pos c7] at H
   have c7b0 : (t740 == t747) = true := beq_iff_eq.mpr c7
   have c7b1 : (t740 != t747) = false := bne_eq_false_iff_eq.mpr c7
   clear c7
   replace H := Option.bind_eq_some_iff.mp H
   obtain ⟨t750, A80, H⟩ := H
   replace H : (if t750 = true then ((raster_Box.f k a0_0 a0_1 l0_2).bind fun bt751 => ((imageeditorref11_Box.f k a0_0 a0_1 l0_2).bind fun bt755 => (some (bt751.1 == bt755.1 && (bt751.2.1 == bt755.2.1 && (bt751.2.2.1 == bt755.2.2.1 && (bt751.2.2.2 == bt755.2.2.2))))))) else (some false)) = some r := H
   have A8 := Aside0.mk A80
   clear A80
   by_cases c9 : t750 = true
   ·subst c9
    have H1 : ((raster_Box.f k a0_0 a0_1 l0_2).bind fun bt751 => ((imageeditorref11_Box.f k a0_0 a0_1 l0_2).bind fun bt755 => (some (bt751.1 == bt755.1 && (bt751.2.1 == bt755.2.1 && (bt751.2.2.1 == bt755.2.2.1 && (bt751.2.2.2 == bt755.2.2.2))))))) = some r := by rw [if_pos rfl] at H; exact H
    clear H
    have H := H1
    clear H1
    replace H := Option.bind_eq_some_iff.mp H
    obtain ⟨⟨t751, t752, t753, t754⟩, A100, H⟩ := H
    replace H : ((imageeditorref11_Box.f k a0_0 a0_1 l0_2).bind fun bt755 => (some (t751 == bt755.1 && (t752 == bt755.2.1 && (t753 == bt755.2.2.1 && (t754 == bt755.2.2.2)))))) = some r := H
    have A10 := Aside0.mk A100
    clear A100
    replace H := Option.bind_eq_some_iff.mp H
    obtain ⟨⟨t755, t756, t757, t758⟩, A110, H⟩ := H
    replace H : (some (t751 == t755 && (t752 == t756 && (t753 == t757 && (t754 == t758))))) = some r := H
    have A11 := Aside0.mk A110
    clear A110
    as_aux_lemma =>
     obtain rfl := Option.some.inj H
     go_enter Try.func8, Try.ntmps8
     try go_wp2_with (first | ((with_reducible refine gate_dst (N := 2) rfl ?_); refine box_event ?hg (N := 2) ?hd (cs := #[.int .i64 a0_0, .int .i64 a0_1, .slice A0_2 l0_2.length c0_2]) (t := 24) ?hr ?_; (case hd => rfl); (case hg => rfl); (case hr => first | (go_simp; done) | (go_simp; rfl)); intro gb734 hg w12 hbox hb; have GW734 := zg HB hg; have GE734 := zg HB hg; have n0_ := Aside0.mk (hbox); replace HB := zb HB hb; have BK734 := n0_; clear n0_; clear hb hbox hg; obtain ⟨hcz13_0, hcz13_1, hcz13_2, hfz13_0, hfz13_1, hfz13_2⟩ := zq3 BK734) | ((with_reducible refine gate_callee (f := 31) rfl ?_); refine goesL_ (some 12) rfl rfl Try.func31 (by kernel_rfl) rfl #[.agg #[.int .i64 a0_0, .int .i64 a0_1, .slice A0_2 l0_2.length c0_2], .int .i64 a1] rfl (by (try simp only [List.map_toArray, List.map_cons, List.map_nil]); first | done | rfl | (simp only [List.length_drop, List.length_take]; rfl)) ?_; (with_reducible refine (raster_Flip.calls k a0_0 a0_1 _ _ l0_2 a1 t735 t736 t737 t740 _ ?side1 ?side2 A3.out).mono ?_); (case side1 => repeat (first | exact (Kd.C_below HR0_2.out HB.out) | (with_reducible refine Kd.C_alloc ?_ _) | (with_reducible refine Kd.C_drewN ?_ _) | (with_reducible refine Kd.C_drew ?_))); (case side2 => exact HC0_2.out); rintro e w14 ⟨v738, rfl, ho0, hb⟩; refine ⟨_, rfl, ?_⟩; have HO739 := zl HB ho0; replace BK734 := zk BK734 hb; replace HB := zb HB hb; (try clear hb); (try clear hb2); (try clear hk); (try clear hi); (try clear ho0)) | ((with_reducible refine gate_dst (N := 5) rfl ?_); refine box_event ?hg (N := 5) ?hd (cs := #[.int .i64 0, .int .i64 0, .slice none 0 0]) (t := 24) ?hr ?_; (case hd => rfl); (case hg => rfl); (case hr => first | (go_simp; done) | (go_simp; rfl)); intro gb741 hg w15 hbox hb; have GW741 := zg HB hg; have GE741 := zg HB hg; have NB734_741 := zn BK734 hg; have NB741_734 := zn' BK734 hg; have n0_ := Aside0.mk (hbox); replace HO739 := zr HO739 hb; replace BK734 := zk BK734 hb; replace HB := zb HB hb; have BK741 := n0_; clear n0_; clear hb hbox hg; have hnb16 := NB741_734.out; have hnc16 := NB734_741.out; obtain ⟨hcz17_0, hcz17_1, hcz17_2, hfz17_0, hfz17_1, hfz17_2⟩ := zq3 BK741; obtain ⟨Ao18, co18, eo18⟩ := Kd.R_slice HO739.out; subst eo18; obtain ⟨hcz19_0, hcz19_1, hcz19_2, hfz19_0, hfz19_1, hfz19_2⟩ := zq3 BK734) | ((with_reducible refine gate_callee (f := 32) rfl ?_); refine goesL_ (some 18) rfl rfl Try.func32 (by kernel_rfl) rfl #[.agg #[.int .i64 a0_0, .int .i64 a0_1, .slice A0_2 l0_2.length c0_2], .int .i64 a1] rfl (by (try simp only [List.map_toArray, List.map_cons, List.map_nil]); first | done | rfl | (simp only [List.length_drop, List.length_take]; rfl)) ?_; (with_reducible refine (imageeditorref11_Flip.calls k a0_0 a0_1 _ _ l0_2 a1 t742 t743 t744 t747 _ ?side1 ?side2 A4.out).mono ?_); (case side1 => exact Kd.C_below HR0_2.out (by exact zbo HB GE741)); (case side2 => exact HC0_2.out); rintro e w20 ⟨v745, rfl, ho0, hb⟩; refine ⟨_, rfl, ?_⟩; have n0_ := Aside0.mk (Kd.R_below (by exact zro HO739 BK741 (by decide)) hb); have n1_ := Aside0.mk (Kd.R_lower ho0 (below_size (by exact zbo HB GE741))); have n2_ := Aside0.mk (blk_below (g := gb741) (o := .cells #[.int .i64 t735, .int .i64 t736, .slice Ao18 t737.length co18] 24 (0, 0)) (by exact zp BK741 rfl) hb); have n3_ := Aside0.mk (below_step (by exact zbo HB GE741) hb); replace BK734 := zfk BK734 NB734_741 hb; clear HO739; clear BK741; clear HB; have HO739 := n0_; have HO746 := n1_; have BK741 := n2_; have HB := n3_; clear n0_ n1_ n2_ n3_; (try clear hb); (try clear hb2); (try clear hk); (try clear hi); (try clear ho0)) | ((with_reducible refine gate_dst (N := 7) rfl ?_); refine box_event ?hg (N := 7) ?hd (cs := #[.int .i64 0, .int .i64 0, .slice none 0 0]) (t := 24) ?hr ?_; (case hd => rfl); (case hg => rfl); (case hr => first | (go_simp; done) | (go_simp; rfl)); intro gb748 hg w21 hbox hb; have GW748 := zg HB hg; have GE748 := zg HB hg; have NB734_748 := zn BK734 hg; have NB748_734 := zn' BK734 hg; have NB741_748 := zn BK741 hg; have NB748_741 := zn' BK741 hg; have n0_ := Aside0.mk (hbox); replace HO739 := zr HO739 hb; replace HO746 := zr HO746 hb; replace BK734 := zk BK734 hb; replace BK741 := zk BK741 hb; replace HB := zb HB hb; have BK748 := n0_; clear n0_; clear hb hbox hg; have hnb22 := NB748_734.out; have hnc22 := NB734_748.out; have hnb23 := NB748_741.out; have hnc23 := NB741_748.out; obtain ⟨hcz24_0, hcz24_1, hcz24_2, hfz24_0, hfz24_1, hfz24_2⟩ := zq3 BK748; obtain ⟨Ao25, co25, eo25⟩ := Kd.R_slice HO746.out; subst eo25))
     have n0_ : Aside0 (Kd.R k26 26 (((w21.setCell ⟨gb748, 0, none⟩ (.int .i64 t742)).setCell ⟨gb748, 1, none⟩ (.int .i64 t743)).setCell ⟨gb748, 2, none⟩ (.slice Ao25 t744.length co25)) w.heap.size (fun _ => True) (.slice Ao18 t737.length co18) t737) := ⟨by exact zro HO739 BK748 (by decide)⟩
     have n1_ : Aside0 (Kd.R k26 26 (((w21.setCell ⟨gb748, 0, none⟩ (.int .i64 t742)).setCell ⟨gb748, 1, none⟩ (.int .i64 t743)).setCell ⟨gb748, 2, none⟩ (.slice Ao25 t744.length co25)) w.heap.size (fun _ => True) (.slice Ao25 t744.length co25) t744) := ⟨by exact zro HO746 BK748 (by decide)⟩
     have n2_ : Aside0 ((((w21.setCell ⟨gb748, 0, none⟩ (.int .i64 t742)).setCell ⟨gb748, 1, none⟩ (.int .i64 t743)).setCell ⟨gb748, 2, none⟩ (.slice Ao25 t744.length co25)).heap[gb734]? = some (.cells #[.int .i64 a0_0, .int .i64 a0_1, .slice A0_2 l0_2.length c0_2] 24 (0, 0))) := ⟨by exact zf BK734 NB734_748⟩
     have n3_ : Aside0 ((((w21.setCell ⟨gb748, 0, none⟩ (.int .i64 t742)).setCell ⟨gb748, 1, none⟩ (.int .i64 t743)).setCell ⟨gb748, 2, none⟩ (.slice Ao25 t744.length co25)).heap[gb741]? = some (.cells #[.int .i64 t735, .int .i64 t736, .slice Ao18 t737.length co18] 24 (0, 0))) := ⟨by exact zf BK741 NB741_748⟩
     have n4_ : Aside0 ((((w21.setCell ⟨gb748, 0, none⟩ (.int .i64 t742)).setCell ⟨gb748, 1, none⟩ (.int .i64 t743)).setCell ⟨gb748, 2, none⟩ (.slice Ao25 t744.length co25)).heap[gb748]? = some (.cells #[.int .i64 t742, .int .i64 t743, .slice Ao25 t744.length co25] 24 (0, 0))) := ⟨by exact zp BK748 rfl⟩
     have n5_ : Aside0 (Below w.heap.size w (((w21.setCell ⟨gb748, 0, none⟩ (.int .i64 t742)).setCell ⟨gb748, 1, none⟩ (.int .i64 t743)).setCell ⟨gb748, 2, none⟩ (.slice Ao25 t744.length co25))) := ⟨by exact zbo HB GE748⟩
     (try clear HO739)
     (try clear HO746)
     (try clear BK734)
     (try clear BK741)
     (try clear BK748)
     (try clear HB)
     generalize (((w21.setCell ⟨gb748, 0, none⟩ (.int .i64 t742)).setCell ⟨gb748, 1, none⟩ (.int .i64 t743)).setCell ⟨gb748, 2, none⟩ (.slice Ao25 t744.length co25)) = w26 at n0_ n1_ n2_ n3_ n4_ n5_ ⊢
     have HO739 := n0_
     have HO746 := n1_
     have BK734 := n2_
     have BK741 := n3_
     have BK748 := n4_
     have HB := n5_
     clear n0_ n1_ n2_ n3_ n4_ n5_
     replace HO739 := zrd HO739
     replace HO746 := zrd HO746
     replace BK734 := zkd BK734
     replace BK741 := zkd BK741
     replace BK748 := zkd BK748
     replace HB := zbd HB
     refine start_ (n := 19) (S := fun w' => w'.cell? ⟨gb741, 0, none⟩ = some (.int .i64 t735) ∧ w'.cell? ⟨gb741, 1, none⟩ = some (.int .i64 t736) ∧ w'.cell? ⟨gb741, 2, none⟩ = some (.slice Ao18 t737.length co18) ∧ w'.cell? ⟨gb748, 0, none⟩ = some (.int .i64 t742) ∧ w'.cell? ⟨gb748, 1, none⟩ = some (.int .i64 t743) ∧ w'.cell? ⟨gb748, 2, none⟩ = some (.slice Ao25 t744.length co25) ∧ w'.cell? ⟨gb734, 0, none⟩ = some (.int .i64 a0_0) ∧ w'.cell? ⟨gb734, 1, none⟩ = some (.int .i64 a0_1) ∧ w'.cell? ⟨gb734, 2, none⟩ = some (.slice A0_2 l0_2.length c0_2)) (ds := []) (bs 19 0) (by kernel_rfl) rfl rfl ⟨(blk_cell BK741.out 0).trans rfl, (blk_cell BK741.out 1).trans rfl, (blk_cell BK741.out 2).trans rfl, (blk_cell BK748.out 0).trans rfl, (blk_cell BK748.out 1).trans rfl, (blk_cell BK748.out 2).trans rfl, (blk_cell BK734.out 0).trans rfl, (blk_cell BK734.out 1).trans rfl, (blk_cell BK734.out 2).trans rfl⟩ (fun hHeld => ?_); refine with_tabW imageeditorlaw11_RasterFlips.tab3 imageeditorlaw11_RasterFlips.bits3 (fun HT_ HW_ => ?_)
     generalize w26.drew = w27 at HO739 HO746 BK734 BK741 BK748 HB HO739 HO746 hHeld ⊢
     refine one_ (i := 0) (N := some 21) (bs 19 1) rfl rfl (one_of HT_.out (by kernel_rfl)) (by decide) (fun K hK => ?_)
     refine goes_ Try.func17 (by kernel_rfl) rfl #[] (by rfl) rfl rfl (by (try simp only [List.map_toArray, List.map_cons, List.map_nil]); first | done | rfl | (simp only [List.length_drop, List.length_take]; rfl)) ?_
     with_reducible refine (imageeditorlaw11_awake.calls k  true _ A5.out).mono ?_
     rintro e w28 ⟨rfl, hb⟩
     refine ⟨_, rfl, ?_⟩
     replace HO739 := zr HO739 hb
     replace HO746 := zr HO746 hb
     replace BK734 := zk BK734 hb
     replace BK741 := zk BK741 hb
     replace BK748 := zk BK748 hb
     replace HB := zb HB hb
     (try clear hb)
     (try clear hb2)
     (try clear hk)
     (try clear hi)
     refine hK.out _ _ ⟨(blk_cell BK741.out 0).trans rfl, (blk_cell BK741.out 1).trans rfl, (blk_cell BK741.out 2).trans rfl, (blk_cell BK748.out 0).trans rfl, (blk_cell BK748.out 1).trans rfl, (blk_cell BK748.out 2).trans rfl, (blk_cell BK734.out 0).trans rfl, (blk_cell BK734.out 1).trans rfl, (blk_cell BK734.out 2).trans rfl⟩ (fun hHeld => ?_)
     clear hK K
     refine norm_ (a' := ?_) ?_ ?_
     rotate_left
     ·show Act.put _ (some 21) _ = _
      simp only [Act.put, sA, sB, sC, i64_w, i32_w]
      rfl
     refine pure_ (i := 1) (N := some 22) (v := ?_) (a' := ?_) (bs 19 3) rfl rfl (any_of HT_.out (by kernel_rfl)) (fun _ _ _ h => h) (Or.inl ⟨by rfl, ?_⟩) ?_ ?_
     rotate_left
     ·intro w'
      go_simp
      with_reducible rfl
     rotate_left
     ·simp only [Act.put, sA, sB, sC, i64_w, i32_w]
      rfl
     refine pure_ (i := 2) (N := some 23) (v := ?_) (a' := ?_) (bs 19 7) rfl rfl (any_of HT_.out (by kernel_rfl)) (fun _ _ _ h => h) (Or.inl ⟨by rfl, ?_⟩) ?_ ?_
     rotate_left
     ·intro w'
      go_simp
      with_reducible rfl
     rotate_left
     ·simp only [Act.put, sA, sB, sC, i64_w, i32_w]
      rfl
     refine pure_ (i := 3) (N := some 24) (v := ?_) (a' := ?_) (bs 19 15) rfl rfl (any_of HT_.out (by kernel_rfl)) (fun _ _ _ h => h) (Or.inl ⟨by rfl, ?_⟩) ?_ ?_
     rotate_left
     ·intro w'
      go_simp
      with_reducible rfl
     rotate_left
     ·simp only [Act.put, sA, sB, sC, i64_w, i32_w]
      rfl
     refine pure_ (i := 4) (N := some 25) (v := ?_) (a' := ?_) (bs 19 31) rfl rfl (any_of HT_.out (by kernel_rfl)) (fun _ _ _ h => h) (Or.inl ⟨by rfl, ?_⟩) ?_ ?_
     rotate_left
     ·intro w'
      go_simp
      with_reducible rfl
     rotate_left
     ·simp only [Act.put, sA, sB, sC, i64_w, i32_w]
      rfl
     refine pure_ (i := 5) (N := some 26) (v := ?_) (a' := ?_) (bs 19 63) rfl rfl (any_of HT_.out (by kernel_rfl)) (fun _ _ _ h => h) (Or.inl ⟨by rfl, ?_⟩) ?_ ?_
     rotate_left
     ·intro w'
      go_simp
      with_reducible rfl
     rotate_left
     ·simp only [Act.put, sA, sB, sC, i64_w, i32_w]
      rfl
     refine pure_ (i := 6) (N := some 27) (v := ?_) (a' := ?_) (bs 19 127) rfl rfl (any_of HT_.out (by kernel_rfl)) (fun _ _ _ h => h) (Or.inl ⟨by rfl, ?_⟩) ?_ ?_
     rotate_left
     ·intro w'
      go_simp
      with_reducible rfl
     rotate_left
     ·simp only [Act.put, sA, sB, sC, i64_w, i32_w]
      rfl
     refine take_ (i := 7) (N := some 28) (v := ?_) (a' := ?_) (bs 19 255) rfl rfl (take_ofW HT_.out HW_.out (by kernel_rfl)) (fun _ _ _ h => h) (Or.inl ⟨by rfl, ?_⟩) hHeld ?_ ?_
     rotate_left
     ·rintro w' ⟨s0, s1, s2, s3, s4, s5, s6, s7, s8⟩
      go_simp
      with_reducible rfl
     rotate_left
     ·simp only [Act.put, sA, sB, sC, i64_w, i32_w]
      rfl
     refine take_ (i := 8) (N := some 29) (v := ?_) (a' := ?_) (bs 19 511) rfl rfl (take_ofW HT_.out HW_.out (by kernel_rfl)) (fun _ _ _ h => h) (Or.inl ⟨by rfl, ?_⟩) hHeld ?_ ?_
     rotate_left
     ·rintro w' ⟨s0, s1, s2, s3, s4, s5, s6, s7, s8⟩
      go_simp
      with_reducible rfl
     rotate_left
     ·simp only [Act.put, sA, sB, sC, i64_w, i32_w]
      rfl
     refine one_ (i := 9) (N := some 30) (bs 19 1023) rfl rfl (one_of HT_.out (by kernel_rfl)) (by decide) (fun K hK => ?_)
     refine goes_ Try.func20 (by kernel_rfl) rfl #[.agg #[.int .i64 t735, .int .i64 t736, .slice Ao18 t737.length co18], .agg #[.int .i64 t742, .int .i64 t743, .slice Ao25 t744.length co25]] (by rfl) rfl rfl (by (try simp only [List.map_toArray, List.map_cons, List.map_nil]); first | done | rfl | (simp only [List.length_drop, List.length_take]; rfl)) ?_
     with_reducible refine (imageeditorlaw11_same.calls k t735 t736 _ _ t737 t742 t743 _ _ t744 true _ ?side1 ?side2 ?side3 ?side4 A8.out).mono ?_
     (case side1 => repeat (first | exact (Kd.R_reads' HO739.out).2.2 | (with_reducible refine Kd.C_alloc ?_ _) | (with_reducible refine Kd.C_drewN ?_ _) | (with_reducible refine Kd.C_drew ?_)))
     (case side2 => exact (Kd.R_reads' HO739.out).2.1)
     (case side3 => repeat (first | exact (Kd.R_reads' HO746.out).2.2 | (with_reducible refine Kd.C_alloc ?_ _) | (with_reducible refine Kd.C_drewN ?_ _) | (with_reducible refine Kd.C_drew ?_)))
     (case side4 => exact (Kd.R_reads' HO746.out).2.1)
     rintro e w29 ⟨rfl, hb⟩
     refine ⟨_, rfl, ?_⟩
     replace HO739 := zr HO739 hb
     replace HO746 := zr HO746 hb
     replace BK734 := zk BK734 hb
     replace BK741 := zk BK741 hb
     replace BK748 := zk BK748 hb
     replace HB := zb HB hb
     (try clear hb)
     (try clear hb2)
     (try clear hk)
     (try clear hi)
     refine hK.out _ _ ⟨(blk_cell BK741.out 0).trans rfl, (blk_cell BK741.out 1).trans rfl, (blk_cell BK741.out 2).trans rfl, (blk_cell BK748.out 0).trans rfl, (blk_cell BK748.out 1).trans rfl, (blk_cell BK748.out 2).trans rfl, (blk_cell BK734.out 0).trans rfl, (blk_cell BK734.out 1).trans rfl, (blk_cell BK734.out 2).trans rfl⟩ (fun hHeld => ?_)
     clear hK K
     refine norm_ (a' := ?_) ?_ ?_
     rotate_left
     ·show Act.put _ (some 30) _ = _
      simp only [Act.put, sA, sB, sC, i64_w, i32_w]
      rfl
     refine pure_ (i := 10) (N := some 31) (v := ?_) (a' := ?_) (bs 19 2047) rfl rfl (any_of HT_.out (by kernel_rfl)) (fun _ _ _ h => h) (Or.inl ⟨by rfl, ?_⟩) ?_ ?_
     rotate_left
     ·intro w'
      go_simp
      with_reducible rfl
     rotate_left
     ·simp only [Act.put, sA, sB, sC, i64_w, i32_w]
      rfl
     refine pure_ (i := 11) (N := some 32) (v := ?_) (a' := ?_) (bs 19 4095) rfl rfl (any_of HT_.out (by kernel_rfl)) (fun _ _ _ h => h) (Or.inl ⟨by rfl, ?_⟩) ?_ ?_
     rotate_left
     ·intro w'
      go_simp
      with_reducible rfl
     rotate_left
     ·simp only [Act.put, sA, sB, sC, i64_w, i32_w]
      rfl
     refine take_ (i := 12) (N := some 33) (v := ?_) (a' := ?_) (bs 19 8191) rfl rfl (take_ofW HT_.out HW_.out (by kernel_rfl)) (fun _ _ _ h => h) (Or.inl ⟨by rfl, ?_⟩) hHeld ?_ ?_
     rotate_left
     ·rintro w' ⟨s0, s1, s2, s3, s4, s5, s6, s7, s8⟩
      go_simp
      with_reducible rfl
     rotate_left
     ·simp only [Act.put, sA, sB, sC, i64_w, i32_w]
      rfl
     refine take_ (i := 14) (N := some 35) (v := ?_) (a' := ?_) (bs 19 24575) rfl rfl (take_ofW HT_.out HW_.out (by kernel_rfl)) (fun _ _ _ h => h) (Or.inl ⟨by rfl, ?_⟩) hHeld ?_ ?_
     rotate_left
     ·rintro w' ⟨s0, s1, s2, s3, s4, s5, s6, s7, s8⟩
      go_simp
      with_reducible rfl
     rotate_left
     ·simp only [Act.put, sA, sB, sC, i64_w, i32_w]
      rfl
     refine one_ (i := 13) (N := some 34) (bs 19 32767) rfl rfl (one_of HT_.out (by kernel_rfl)) (by decide) (fun K hK => ?_)
     refine goes_ Try.func33 (by kernel_rfl) rfl #[.agg #[.int .i64 a0_0, .int .i64 a0_1, .slice A0_2 l0_2.length c0_2]] (by rfl) rfl rfl (by (try simp only [List.map_toArray, List.map_cons, List.map_nil]); first | done | rfl | (simp only [List.length_drop, List.length_take]; rfl)) ?_
     with_reducible refine (raster_Box.calls k a0_0 a0_1 _ _ l0_2 t751 t752 t753 t754 _ ?side1 ?side2 A10.out).mono ?_
     (case side1 => repeat (first | exact (Kd.C_below HR0_2.out HB.out) | (with_reducible refine Kd.C_alloc ?_ _) | (with_reducible refine Kd.C_drewN ?_ _) | (with_reducible refine Kd.C_drew ?_)))
     (case side2 => exact HC0_2.out)
     rintro e w30 ⟨rfl, hb⟩
     refine ⟨_, rfl, ?_⟩
     replace HO739 := zr HO739 hb
     replace HO746 := zr HO746 hb
     replace BK734 := zk BK734 hb
     replace BK741 := zk BK741 hb
     replace BK748 := zk BK748 hb
     replace HB := zb HB hb
     (try clear hb)
     (try clear hb2)
     (try clear hk)
     (try clear hi)
     refine hK.out _ _ ⟨(blk_cell BK741.out 0).trans rfl, (blk_cell BK741.out 1).trans rfl, (blk_cell BK741.out 2).trans rfl, (blk_cell BK748.out 0).trans rfl, (blk_cell BK748.out 1).trans rfl, (blk_cell BK748.out 2).trans rfl, (blk_cell BK734.out 0).trans rfl, (blk_cell BK734.out 1).trans rfl, (blk_cell BK734.out 2).trans rfl⟩ (fun hHeld => ?_)
     clear hK K
     refine norm_ (a' := ?_) ?_ ?_
     rotate_left
     ·show Act.put _ (some 34) _ = _
      simp only [Act.put, sA, sB, sC, i64_w, i32_w]
      rfl
     refine one_ (i := 15) (N := some 36) (bs 19 65535) rfl rfl (one_of HT_.out (by kernel_rfl)) (by decide) (fun K hK => ?_)
     refine goes_ Try.func34 (by kernel_rfl) rfl #[.agg #[.int .i64 a0_0, .int .i64 a0_1, .slice A0_2 l0_2.length c0_2]] (by rfl) rfl rfl (by (try simp only [List.map_toArray, List.map_cons, List.map_nil]); first | done | rfl | (simp only [List.length_drop, List.length_take]; rfl)) ?_
     with_reducible refine (imageeditorref11_Box.calls k a0_0 a0_1 _ _ l0_2 t755 t756 t757 t758 _ ?side1 ?side2 A11.out).mono ?_
     (case side1 => repeat (first | exact (Kd.C_below HR0_2.out HB.out) | (with_reducible refine Kd.C_alloc ?_ _) | (with_reducible refine Kd.C_drewN ?_ _) | (with_reducible refine Kd.C_drew ?_)))
     (case side2 => exact HC0_2.out)
     rintro e w31 ⟨rfl, hb⟩
     refine ⟨_, rfl, ?_⟩
     replace HO739 := zr HO739 hb
     replace HO746 := zr HO746 hb
     replace BK734 := zk BK734 hb
     replace BK741 := zk BK741 hb
     replace BK748 := zk BK748 hb
     replace HB := zb HB hb
     (try clear hb)
     (try clear hb2)
     (try clear hk)
     (try clear hi)
     refine hK.out _ _ ⟨(blk_cell BK741.out 0).trans rfl, (blk_cell BK741.out 1).trans rfl, (blk_cell BK741.out 2).trans rfl, (blk_cell BK748.out 0).trans rfl, (blk_cell BK748.out 1).trans rfl, (blk_cell BK748.out 2).trans rfl, (blk_cell BK734.out 0).trans rfl, (blk_cell BK734.out 1).trans rfl, (blk_cell BK734.out 2).trans rfl⟩ (fun hHeld => ?_)
     clear hK K
     refine norm_ (a' := ?_) ?_ ?_
     rotate_left
     ·show Act.put _ (some 36) _ = _
      simp only [Act.put, sA, sB, sC, i64_w, i32_w]
      rfl
     refine pure_ (i := 16) (N := some 37) (v := ?_) (a' := ?_) (bs 19 131071) rfl rfl (any_of HT_.out (by kernel_rfl)) (fun _ _ _ h => h) (Or.inl ⟨by rfl, ?_⟩) ?_ ?_
     rotate_left
     ·intro w'
      go_simp
      with_reducible rfl
     rotate_left
     ·simp only [Act.put, sA, sB, sC, i64_w, i32_w]
      rfl
     refine pure_ (i := 17) (N := some 38) (v := ?_) (a' := ?_) (bs 19 262143) rfl rfl (any_of HT_.out (by kernel_rfl)) (fun _ _ _ h => h) (Or.inl ⟨by rfl, ?_⟩) ?_ ?_
     rotate_left
     ·intro w'
      go_simp
      with_reducible rfl
     rotate_left
     ·simp only [Act.put, sA, sB, sC, i64_w, i32_w]
      rfl
     refine pure_ (i := 18) (N := some 4) (v := ?_) (a' := ?_) (bs 19 524287) rfl rfl (any_of HT_.out (by kernel_rfl)) (fun _ _ _ h => h) (Or.inl ⟨by rfl, ?_⟩) ?_ ?_
     rotate_left
     ·intro w'
      go_simp
      with_reducible rfl
     rotate_left
     ·simp only [Act.put, sA, sB, sC, i64_w, i32_w]
      rfl
     refine done_ (done_of HT_.out (by kernel_rfl)) ?_
     try go_wp2
     go_ret
     exact ⟨by first | rfl | (simp [errW_none, errW_some] <;> rfl) | (simp [*, errW_none, errW_some] <;> rfl), by exact zb0 HB⟩
   ·replace c9 := Bool.eq_false_iff.mpr c9
    subst c9
    have H1 : (some false) = some r := by rw [if_neg (show ¬ (false = true) by decide)] at H; exact H
    clear H
    have H := H1
    clear H1
    as_aux_lemma =>
     exact absurd HT.out (by rw [← Option.some.inj H]; decide)
  ·rw [if_neg c7] at H
   have c7b0 : (t740 == t747) = false := beq_eq_false_iff_ne.mpr c7
   have c7b1 : (t740 != t747) = true := bne_iff_ne.mpr c7
   as_aux_lemma =>
    exact absurd HT.out (by rw [← Option.some.inj H]; decide)
 ·replace c6 := Bool.eq_false_iff.mpr c6
  subst c6
  have H1 : (some false) = some r := by rw [if_neg (show ¬ (false = true) by decide)] at H; exact H
  clear H
  have H := H1
  clear H1
  as_aux_lemma =>
   exact absurd HT.out (by rw [← Option.some.inj H]; decide)

end Go.Proofs.Ytjepbimgddgijaa.G
