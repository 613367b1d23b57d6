-- Written by a program of this session (wip/gx.py over the kit's print); Lean checks it.
import Derived.Test.YtmmncannibnklaaG0
import Derived.Test.YtmmncannibnklaaG2
import Derived.Test.YtmmncannibnklaaG12
namespace Go.Proofs.Ytmmncannibnklaa.G
open Go.RowKit Go.Proofs.YtmmncannibnklaaW.PrintWords Go.Proofs.YtmmncannibnklaaW.PrintLast Go.Proofs.YtmmncannibnklaaW.PrintMore
attribute [local go_sem] max2_int min2_int max_two min_two max_three min_three max_four min_four   -- for this text's walks alone
set_option linter.unusedVariables false
set_option linter.unusedSimpArgs false

/-! ### wand_each__wand_Opaque_1: function 31 -/
def wand_each__wand_Opaque_1.l0 : Nat → List (S37) → Int → Int → Int → Int → List Int → Option (Int × Int × List Int)
 | 0, _, _, _, _, _, _ => none
 | k + 1, x14, x15, x16, x331000, x331001, x331002 => if x16 < x15 then (if 0 ≤ x16 then (if x16 < (x14.length : Int) then ((wand_Opaque_1.f ((rd_T37 x14 x16).f0) ((rd_T37 x14 x16).f1) ((rd_T37 x14 x16).f2) ((rd_T37 x14 x16).f3)).bind fun t333 => (if x331002.length < 17592186044416 then (wand_each__wand_Opaque_1.l0 k x14 x15 (wrap64 (x16 + 1)) x331000 x331001 (x331002 ++ [t333])) else (none))) else (none)) else (none)) else (some (x331000, x331001, x331002))
def wand_each__wand_Opaque_1.f (k : Nat) (a0_0 : Int) (a0_1 : Int) (l0_2 : List (S37))  : Option (Int × Int × List Int) := wand_each__wand_Opaque_1.l0 k l0_2 (l0_2.length : Int) 0 a0_0 a0_1 ([] : List Int)
theorem wand_each__wand_Opaque_1.mono_l : ∀ k, (∀ y0 y1 y2 y3 y4 y5, LeO (wand_each__wand_Opaque_1.l0 k y0 y1 y2 y3 y4 y5) (wand_each__wand_Opaque_1.l0 (k + 1) y0 y1 y2 y3 y4 y5))
 | 0 => fun _ _ _ _ _ _ r h => by simp [wand_each__wand_Opaque_1.l0] at h
 | k + 1 => by
  have ih0 := wand_each__wand_Opaque_1.mono_l k
  ·intro y0 y1 y2 y3 y4 y5
   unfold wand_each__wand_Opaque_1.l0
   repeat' first
   | (with_reducible exact ih0 _ _ _ _ _ _)
   | (with_reducible exact LeO.refl _)
   | (with_reducible exact LeO.none _)
   | (with_reducible refine LeO.ite ?_ ?_)
   | (with_reducible refine LeO.bind ?_ (fun _ => ?_))
   | exact ih0 _ _ _ _ _ _
   | exact LeO.none _
   | refine LeO.ite ?_ ?_
   | refine LeO.bind ?_ (fun _ => ?_)
theorem wand_each__wand_Opaque_1.mono : ∀ a0 a1 a2 k, LeO (wand_each__wand_Opaque_1.f k a0 a1 a2) (wand_each__wand_Opaque_1.f (k + 1) a0 a1 a2) := by
 intro a0 a1 a2 k
 have ih0 := wand_each__wand_Opaque_1.mono_l k
 unfold wand_each__wand_Opaque_1.f
 repeat' first
   | (with_reducible exact ih0 _ _ _ _ _ _)
   | (with_reducible exact LeO.refl _)
   | (with_reducible exact LeO.none _)
   | (with_reducible refine LeO.ite ?_ ?_)
   | (with_reducible refine LeO.bind ?_ (fun _ => ?_))
   | exact ih0 _ _ _ _ _ _
   | exact LeO.none _
   | refine LeO.ite ?_ ?_
   | refine LeO.bind ?_ (fun _ => ?_)
def wand_each__wand_Opaque_1.T5 : Bool × List (List Nat × List Nat) := (true, [([], []), ([0], [0]), ([], []), ([], []), ([2, 3], [2, 3]), ([4], [4]), ([1, 5, 4], [1, 5]), ([0, 1, 2, 3, 4, 5, 6], []), ([7, 6, 6, 0, 1, 2, 3, 4, 5, 6], [6, 7])])
def wand_each__wand_Opaque_1.B5 : List Nat := [0, 1, 0, 0, 12, 28, 63, 127, 255]
theorem wand_each__wand_Opaque_1.tab5 : rtab .any (opsOf Try.f31 5) = wand_each__wand_Opaque_1.T5 := by kernel_rfl
theorem wand_each__wand_Opaque_1.bits5 : waitsOk wand_each__wand_Opaque_1.T5.2 wand_each__wand_Opaque_1.B5 = true := by kernel_rfl
set_option maxHeartbeats 8000000 in
set_option maxRecDepth 100000 in
theorem wand_each__wand_Opaque_1.calls (k : Nat) (a0_0 : Int) (a0_1 : Int) (A0_2 : Option Addr) (c0_2 : Nat) (l0_2 : List (S37))  (r1 : Int) (r2 : Int) (r3 : List Int) (w : World) (hr0_2 : Kd.C k37 w A0_2 l0_2.length l0_2) (hc0_2 : l0_2.length ≤ c0_2) (h : wand_each__wand_Opaque_1.f k a0_0 a0_1 l0_2 = some (r1, r2, r3)) :
  Calls Try.prog 31 #[.agg #[.int .i64 a0_0, .int .i64 a0_1, .slice A0_2 l0_2.length c0_2], .func (.func 38) #[] #[]] w fun e w' => ∃ v2_ : Value, e = .returned (.agg #[.int .i64 r1, .int .i64 r2, v2_]) ∧ Kd.R (Kd.int .i64) 3 w' w.heap.size (fun _ => True) v2_ r3 ∧ Below w.heap.size w w' := by
 have hu24 := Try.underlying24
 have hu29 := Try.underlying29
 have hu37 := Try.underlying37
 have HR0_2 := Aside0.mk hr0_2
 have HC0_2 := Aside0.mk hc0_2
 clear hr0_2 hc0_2
 have HB := Aside0.mk (Below.refl w.heap.size w)
 have H : (wand_each__wand_Opaque_1.l0 k l0_2 (l0_2.length : Int) 0 a0_0 a0_1 ([] : List Int)) = some (r1, r2, r3) := h
 clear h
 have H' := Aside0.mk H
 clear H
 go_enter Try.func31, Try.ntmps31
 go_wp2_with (first | ((with_reducible refine gate_dst (N := 2) rfl ?_); refine box_event ?hg (N := 2) ?hd (cs := #[.int .i64 a0_0, .int .i64 a0_1, .slice A0_2 l0_2.length c0_2]) (t := 24) ?hr ?_; (case hd => rfl); (case hg => rfl); (case hr => first | (go_simp; done) | (go_simp; rfl)); intro gb328 hg w3 hbox hb; have GW328 := zg HB hg; have GE328 := zg HB hg; have n0_ := Aside0.mk (hbox); replace HB := zb HB hb; have BK328 := n0_; clear n0_; clear hb hbox hg) | ((with_reducible refine gate_dst (N := 4) rfl ?_); refine box_event ?hg (N := 4) ?hd (cs := #[.int .i64 0, .int .i64 0, .slice none 0 0]) (t := 29) ?hr ?_; (case hd => rfl); (case hg => rfl); (case hr => first | (go_simp; done) | (go_simp; rfl)); intro gb329 hg w4 hbox hb; have GW329 := zg HB hg; have GE329 := zg HB hg; have NB328_329 := zn BK328 hg; have NB329_328 := zn' BK328 hg; have n0_ := Aside0.mk (hbox); replace BK328 := zk BK328 hb; replace HB := zb HB hb; have BK329 := n0_; clear n0_; clear hb hbox hg; have hnb5 := NB328_329.out; have hnc5 := NB329_328.out; obtain ⟨hcz6_0, hcz6_1, hcz6_2, hfz6_0, hfz6_1, hfz6_2⟩ := zq3 BK328) | ((with_reducible refine gate_dst (N := 5) rfl ?_); refine box_event ?hg (N := 5) ?hd (cs := #[.int .i64 0, .int .i64 0, .slice none 0 0]) (t := 29) ?hr ?_; (case hd => rfl); (case hg => rfl); (case hr => first | (go_simp; done) | (go_simp; rfl)); intro gb330 hg w7 hbox hb; have GW330 := zg HB hg; have GE330 := zg HB hg; have NB328_330 := zn BK328 hg; have NB330_328 := zn' BK328 hg; have NB329_330 := zn BK329 hg; have NB330_329 := zn' BK329 hg; have n0_ := Aside0.mk (hbox); replace BK328 := zk BK328 hb; replace BK329 := zk BK329 hb; replace HB := zb HB hb; have BK330 := n0_; clear n0_; clear hb hbox hg; have hnb8 := NB330_328.out; have hnc8 := NB328_330.out; have hnb9 := NB330_329.out; have hnc9 := NB329_330.out; obtain ⟨hcz10_0, hcz10_1, hcz10_2, hfz10_0, hfz10_1, hfz10_2⟩ := zq3 BK330; obtain ⟨hcz11_0, hcz11_1, hcz11_2, hfz11_0, hfz11_1, hfz11_2⟩ := zq3 BK328))
 (try simp only [Act.put, sA, sB, sC])
 go_loopg [16] k (fun kq v16 w' => ∃ (x16_1 : Int) (x331002_1 : List Int) (u331002 : Value), v16 = .int .i64 x16_1 ∧ Aside0 (wand_each__wand_Opaque_1.l0 kq l0_2 (l0_2.length : Int) x16_1 a0_0 a0_1 x331002_1 = some (r1, r2, r3)) ∧ Aside0 (kq ≤ k) ∧ Aside0 (Kd.R (Kd.int .i64) 3 w' w.heap.size (fun _ => True) u331002 x331002_1) ∧ Aside0 (w'.heap[gb328]? = some (.cells #[.int .i64 a0_0, .int .i64 a0_1, (.slice A0_2 l0_2.length c0_2)] 24 (0, 0))) ∧ Aside0 (w'.heap[gb329]? = some (.cells #[.int .i64 0, .int .i64 0, (.slice none 0 0)] 29 (0, 0))) ∧ Aside0 (w'.heap[gb330]? = some (.cells #[.int .i64 a0_0, .int .i64 a0_1, u331002] 29 (0, 0))) ∧ Aside0 (Below w.heap.size w w'))
 case atStart => exact ⟨(0), (([] : List Int)), (.slice none 0 0), (by first | rfl | (simp; done) | (simp [*]; done)), H', ⟨Nat.le_refl _⟩, ⟨by first | exact Kd.R_nil _ _ _ _ _ | exact Kd.N_nil _ _ _ _ _ | exact Kd.V_nil _ _ _ _ _ | exact Kd.Q_nil _ _ _ _ _ | exact Kd.S_nil _ _ _ _ _⟩, ⟨by exact zf BK328 NB328_330⟩, ⟨by exact zf BK329 NB329_330⟩, ⟨by exact zp BK330 rfl⟩, ⟨by exact zbo HB GE330⟩⟩
 case round =>
  clear H'
  try clear p2
  try clear c3
  try clear q3
  try clear c5
  try clear c8
  try clear c9
  try clear hcz10_0
  try clear hcz10_1
  try clear hcz10_2
  try clear hcz11_0
  try clear hcz11_1
  try clear hcz11_2
  try clear hcz6_0
  try clear hcz6_1
  try clear hcz6_2
  try clear hfz10_0
  try clear hfz10_1
  try clear hfz10_2
  try clear hfz11_0
  try clear hfz11_1
  try clear hfz11_2
  try clear hfz6_0
  try clear hfz6_1
  try clear hfz6_2
  obtain ⟨x16_1, x331002_1, u331002, rfl, HA, HK1, HO_331002, BK328, BK329, BK330, HB⟩ := hrel
  cases gk with
  | zero => exact absurd HA.out (by simp [wand_each__wand_Opaque_1.l0])
  | succ k1 =>
   have H := HA.out
   clear HA
   simp only [wand_each__wand_Opaque_1.l0] at H
   by_cases c12 : x16_1 < (l0_2.length : Int)
   ·rw [if_pos c12] at H
    have c12b0 : decide (x16_1 < (l0_2.length : Int)) = true := decide_eq_true c12
    clear c12
    by_cases c13 : 0 ≤ x16_1
    ·rw [if_pos c13] at H
     have c13b0 : decide (0 ≤ x16_1) = true := decide_eq_true c13
     clear c13
     by_cases c14 : x16_1 < (l0_2.length : Int)
     ·rw [if_pos c14] at H
      have c14b0 : decide (x16_1 < (l0_2.length : Int)) = true := decide_eq_true c14
      clear c14
      replace H := Option.bind_eq_some_iff.mp H
      obtain ⟨t333, A150, H⟩ := H
      replace H : (if x331002_1.length < 17592186044416 then (wand_each__wand_Opaque_1.l0 k1 l0_2 (l0_2.length : Int) (wrap64 (x16_1 + 1)) a0_0 a0_1 (x331002_1 ++ [t333])) else (none)) = some (r1, r2, r3) := H
      have A15 := Aside0.mk A150
      clear A150
      by_cases c16 : x331002_1.length < 17592186044416
      ·rw [if_pos c16] at H
       have LMc16 := Aside0.mk c16
       clear c16
       obtain ⟨y334, hy334⟩ : ∃ y_ : List Int, y_ = (x331002_1 ++ [t333]) := ⟨_, rfl⟩
       replace H : (wand_each__wand_Opaque_1.l0 k1 l0_2 (l0_2.length : Int) (wrap64 (x16_1 + 1)) a0_0 a0_1 y334) = some (r1, r2, r3) := by first | (rw [hy334]; with_reducible exact H) | (have H2_ := (Option.bind_some _ _).symm.trans H; rw [hy334]; with_reducible exact H2_) | (have H2_ := (Option.bind_some _ _).symm.trans H; with_reducible exact H2_) | with_reducible exact H | (rw [hy334]; exact H) | exact H
       have Ny334 := Aside0.mk hy334
       clear hy334
       have H' := Aside0.mk H
       clear H
       have p331 : 0 ≤ (x16_1 : Int) := of_decide_eq_true (by first | (with_reducible assumption) | assumption)
       have q331 : x16_1 < (l0_2.length : Int) := of_decide_eq_true (by first | (with_reducible assumption) | assumption)
       obtain ⟨ad331, e331, hx331_0, hx331_1, hx331_2, hx331_3⟩ := at_T37 HR0_2.out x16_1 p331 q331
       cases e331
       replace hx331_0 := (HB.out.cell (World.block_lt_of_cell? w _ hx331_0)).trans hx331_0
       replace hx331_1 := (HB.out.cell (World.block_lt_of_cell? w _ hx331_1)).trans hx331_1
       replace hx331_2 := (HB.out.cell (World.block_lt_of_cell? w _ hx331_2)).trans hx331_2
       replace hx331_3 := (HB.out.cell (World.block_lt_of_cell? w _ hx331_3)).trans hx331_3
       replace p331 := eq_true p331
       replace q331 := eq_true q331
       try go_wp2_with (first | ((with_reducible refine gate_dst (N := 7) rfl ?_); refine box_event ?hg (N := 7) ?hd (cs := #[.int .i64 0, .int .i64 0, .int .i64 0, .int .i64 0]) (t := 37) ?hr ?_; (case hd => rfl); (case hg => rfl); (case hr => first | (go_simp; done) | (go_simp; rfl)); intro gb332 hg w17 hbox hb; have GW332 := zg HB hg; have GE332 := zg HB hg; have NB328_332 := zn BK328 hg; have NB332_328 := zn' BK328 hg; have NB329_332 := zn BK329 hg; have NB332_329 := zn' BK329 hg; have NB330_332 := zn BK330 hg; have NB332_330 := zn' BK330 hg; have n0_ := Aside0.mk (hbox); replace HO_331002 := zr HO_331002 hb; replace BK328 := zk BK328 hb; replace BK329 := zk BK329 hb; replace BK330 := zk BK330 hb; replace HB := zb HB hb; have BK332 := n0_; clear n0_; clear hb hbox hg; have hnb18 := NB332_328.out; have hnc18 := NB328_332.out; have hnb19 := NB332_329.out; have hnc19 := NB329_332.out; have hnb20 := NB332_330.out; have hnc20 := NB330_332.out; obtain ⟨hcz21_0, hcz21_1, hcz21_2, hcz21_3, hfz21_0, hfz21_1, hfz21_2, hfz21_3⟩ := zq4 BK332))
       have n0_ : Aside0 (Kd.R (Kd.int .i64) 3 ((((w17.setCell ⟨gb332, 0, none⟩ (.int .i64 ((rd_T37 l0_2 x16_1).f0))).setCell ⟨gb332, 1, none⟩ (.int .i64 ((rd_T37 l0_2 x16_1).f1))).setCell ⟨gb332, 2, none⟩ (.int .i64 ((rd_T37 l0_2 x16_1).f2))).setCell ⟨gb332, 3, none⟩ (.int .i64 ((rd_T37 l0_2 x16_1).f3))) w.heap.size (fun _ => True) u331002 x331002_1) := ⟨by exact zro HO_331002 BK332 (by decide)⟩
       have n1_ : Aside0 (((((w17.setCell ⟨gb332, 0, none⟩ (.int .i64 ((rd_T37 l0_2 x16_1).f0))).setCell ⟨gb332, 1, none⟩ (.int .i64 ((rd_T37 l0_2 x16_1).f1))).setCell ⟨gb332, 2, none⟩ (.int .i64 ((rd_T37 l0_2 x16_1).f2))).setCell ⟨gb332, 3, none⟩ (.int .i64 ((rd_T37 l0_2 x16_1).f3))).heap[gb328]? = some (.cells #[.int .i64 a0_0, .int .i64 a0_1, .slice (some ad331) l0_2.length c0_2] 24 (0, 0))) := ⟨by exact zf BK328 NB328_332⟩
       have n2_ : Aside0 (((((w17.setCell ⟨gb332, 0, none⟩ (.int .i64 ((rd_T37 l0_2 x16_1).f0))).setCell ⟨gb332, 1, none⟩ (.int .i64 ((rd_T37 l0_2 x16_1).f1))).setCell ⟨gb332, 2, none⟩ (.int .i64 ((rd_T37 l0_2 x16_1).f2))).setCell ⟨gb332, 3, none⟩ (.int .i64 ((rd_T37 l0_2 x16_1).f3))).heap[gb329]? = some (.cells #[.int .i64 0, .int .i64 0, .slice none 0 0] 29 (0, 0))) := ⟨by exact zf BK329 NB329_332⟩
       have n3_ : Aside0 (((((w17.setCell ⟨gb332, 0, none⟩ (.int .i64 ((rd_T37 l0_2 x16_1).f0))).setCell ⟨gb332, 1, none⟩ (.int .i64 ((rd_T37 l0_2 x16_1).f1))).setCell ⟨gb332, 2, none⟩ (.int .i64 ((rd_T37 l0_2 x16_1).f2))).setCell ⟨gb332, 3, none⟩ (.int .i64 ((rd_T37 l0_2 x16_1).f3))).heap[gb330]? = some (.cells #[.int .i64 a0_0, .int .i64 a0_1, u331002] 29 (0, 0))) := ⟨by exact zf BK330 NB330_332⟩
       have n4_ : Aside0 (((((w17.setCell ⟨gb332, 0, none⟩ (.int .i64 ((rd_T37 l0_2 x16_1).f0))).setCell ⟨gb332, 1, none⟩ (.int .i64 ((rd_T37 l0_2 x16_1).f1))).setCell ⟨gb332, 2, none⟩ (.int .i64 ((rd_T37 l0_2 x16_1).f2))).setCell ⟨gb332, 3, none⟩ (.int .i64 ((rd_T37 l0_2 x16_1).f3))).heap[gb332]? = some (.cells #[.int .i64 ((rd_T37 l0_2 x16_1).f0), .int .i64 ((rd_T37 l0_2 x16_1).f1), .int .i64 ((rd_T37 l0_2 x16_1).f2), .int .i64 ((rd_T37 l0_2 x16_1).f3)] 37 (0, 0))) := ⟨by exact zp BK332 rfl⟩
       have n5_ : Aside0 (Below w.heap.size w ((((w17.setCell ⟨gb332, 0, none⟩ (.int .i64 ((rd_T37 l0_2 x16_1).f0))).setCell ⟨gb332, 1, none⟩ (.int .i64 ((rd_T37 l0_2 x16_1).f1))).setCell ⟨gb332, 2, none⟩ (.int .i64 ((rd_T37 l0_2 x16_1).f2))).setCell ⟨gb332, 3, none⟩ (.int .i64 ((rd_T37 l0_2 x16_1).f3)))) := ⟨by exact zbo HB GE332⟩
       (try clear HO_331002)
       (try clear BK328)
       (try clear BK329)
       (try clear BK330)
       (try clear BK332)
       (try clear HB)
       generalize ((((w17.setCell ⟨gb332, 0, none⟩ (.int .i64 ((rd_T37 l0_2 x16_1).f0))).setCell ⟨gb332, 1, none⟩ (.int .i64 ((rd_T37 l0_2 x16_1).f1))).setCell ⟨gb332, 2, none⟩ (.int .i64 ((rd_T37 l0_2 x16_1).f2))).setCell ⟨gb332, 3, none⟩ (.int .i64 ((rd_T37 l0_2 x16_1).f3))) = w22 at n0_ n1_ n2_ n3_ n4_ n5_ ⊢
       have HO_331002 := n0_
       have BK328 := n1_
       have BK329 := n2_
       have BK330 := n3_
       have BK332 := n4_
       have HB := n5_
       clear n0_ n1_ n2_ n3_ n4_ n5_
       replace HO_331002 := zrd HO_331002
       replace BK328 := zkd BK328
       replace BK329 := zkd BK329
       replace BK330 := zkd BK330
       replace BK332 := zkd BK332
       replace HB := zbd HB
       refine start_ (n := 9) (S := fun w' => w'.cell? ⟨gb330, 0, none⟩ = some (.int .i64 a0_0) ∧ w'.cell? ⟨gb330, 1, none⟩ = some (.int .i64 a0_1) ∧ w'.cell? ⟨gb330, 2, none⟩ = some (u331002) ∧ w'.cell? ⟨gb332, 0, none⟩ = some (.int .i64 ((rd_T37 l0_2 x16_1).f0)) ∧ w'.cell? ⟨gb332, 1, none⟩ = some (.int .i64 ((rd_T37 l0_2 x16_1).f1)) ∧ w'.cell? ⟨gb332, 2, none⟩ = some (.int .i64 ((rd_T37 l0_2 x16_1).f2)) ∧ w'.cell? ⟨gb332, 3, none⟩ = some (.int .i64 ((rd_T37 l0_2 x16_1).f3))) (ds := [8]) (bs 9 0) (by kernel_rfl) rfl rfl ⟨(blk_cell BK330.out 0).trans rfl, (blk_cell BK330.out 1).trans rfl, (blk_cell BK330.out 2).trans rfl, (blk_cell BK332.out 0).trans rfl, (blk_cell BK332.out 1).trans rfl, (blk_cell BK332.out 2).trans rfl, (blk_cell BK332.out 3).trans rfl⟩ (fun hHeld => ?_); refine with_tabW wand_each__wand_Opaque_1.tab5 wand_each__wand_Opaque_1.bits5 (fun HT_ HW_ => ?_)
       generalize w22.drew = w23 at HO_331002 BK328 BK329 BK330 BK332 HB hHeld ⊢
       refine pure_ (i := 0) (N := some 20) (v := ?_) (a' := ?_) (bs 9 1) rfl rfl (any_of HT_.out (by kernel_rfl)) (fun _ _ _ h => h) (Or.inl ⟨by rfl, ?_⟩) ?_ ?_
       rotate_left
       ·intro w'
        go_simp
        with_reducible rfl
       rotate_left
       ·simp only [Act.put, sA, sB, sC, i64_w, i32_w]
        rfl
       refine pure_ (i := 2) (N := some 22) (v := ?_) (a' := ?_) (bs 9 5) rfl rfl (any_of HT_.out (by kernel_rfl)) (fun _ _ _ h => h) (Or.inl ⟨by rfl, ?_⟩) ?_ ?_
       rotate_left
       ·intro w'
        go_simp
        with_reducible rfl
       rotate_left
       ·simp only [Act.put, sA, sB, sC, i64_w, i32_w]
        rfl
       refine take_ (i := 1) (N := some 21) (v := ?_) (a' := ?_) (bs 9 7) rfl rfl (take_ofW HT_.out HW_.out (by kernel_rfl)) (fun _ _ _ h => h) (Or.inl ⟨by rfl, ?_⟩) hHeld ?_ ?_
       rotate_left
       ·rintro w' ⟨s0, s1, s2, s3, s4, s5, s6⟩
        go_simp
        with_reducible rfl
       rotate_left
       ·simp only [Act.put, sA, sB, sC, i64_w, i32_w]
        rfl
       refine take_ (i := 3) (N := some 23) (v := ?_) (a' := ?_) (bs 9 15) rfl rfl (take_ofW HT_.out HW_.out (by kernel_rfl)) (fun _ _ _ h => h) (Or.inl ⟨by rfl, ?_⟩) hHeld ?_ ?_
       rotate_left
       ·rintro w' ⟨s0, s1, s2, s3, s4, s5, s6⟩
        go_simp
        with_reducible rfl
       rotate_left
       ·simp only [Act.put, sA, sB, sC, i64_w, i32_w]
        rfl
       refine one_ (i := 4) (N := some 24) (bs 9 31) rfl rfl (one_of HT_.out (by kernel_rfl)) (by decide) (fun K hK => ?_)
       refine goesT_ (t := 22) Try.func38 (by kernel_rfl) rfl #[] #[.agg #[.int .i64 ((rd_T37 l0_2 x16_1).f0), .int .i64 ((rd_T37 l0_2 x16_1).f1), .int .i64 ((rd_T37 l0_2 x16_1).f2), .int .i64 ((rd_T37 l0_2 x16_1).f3)]] (by rfl) rfl rfl (by first | rfl | (go_simp; done) | (go_simp; rfl)) (by (try simp only [List.map_toArray, List.map_cons, List.map_nil]); first | done | rfl | (go_simp; done) | (go_simp; rfl)) ?_
       with_reducible refine (wand_Opaque_1.calls ((rd_T37 l0_2 x16_1).f0) ((rd_T37 l0_2 x16_1).f1) ((rd_T37 l0_2 x16_1).f2) ((rd_T37 l0_2 x16_1).f3) t333 _ A15.out).mono ?_
       rintro e w24 ⟨rfl, hb⟩
       refine ⟨_, rfl, ?_⟩
       replace HO_331002 := zr HO_331002 hb
       replace BK328 := zk BK328 hb
       replace BK329 := zk BK329 hb
       replace BK330 := zk BK330 hb
       replace BK332 := zk BK332 hb
       replace HB := zb HB hb
       (try clear hb)
       (try clear hb2)
       (try clear hk)
       (try clear hi)
       refine hK.out _ _ ⟨(blk_cell BK330.out 0).trans rfl, (blk_cell BK330.out 1).trans rfl, (blk_cell BK330.out 2).trans rfl, (blk_cell BK332.out 0).trans rfl, (blk_cell BK332.out 1).trans rfl, (blk_cell BK332.out 2).trans rfl, (blk_cell BK332.out 3).trans rfl⟩ (fun hHeld => ?_)
       clear hK K
       refine norm_ (a' := ?_) ?_ ?_
       rotate_left
       ·show Act.put _ (some 24) _ = _
        simp only [Act.put, sA, sB, sC, i64_w, i32_w]
        rfl
       refine one_ (i := 5) (N := some 25) (bs 9 63) rfl rfl (one_of HT_.out (by kernel_rfl)) (by decide) (fun K hK => ?_)
       refine value_ (w1 := ?_) (v := ?_) (by rfl) rfl ?_ ?_
       rotate_left 2
       ·go_simp
        constructor
        ·rfl
        ·rfl
       refine hK.out _ _ ⟨(blk_cell (blk_alloc BK330.out _) 0).trans rfl, (blk_cell (blk_alloc BK330.out _) 1).trans rfl, (blk_cell (blk_alloc BK330.out _) 2).trans rfl, (blk_cell (blk_alloc BK332.out _) 0).trans rfl, (blk_cell (blk_alloc BK332.out _) 1).trans rfl, (blk_cell (blk_alloc BK332.out _) 2).trans rfl, (blk_cell (blk_alloc BK332.out _) 3).trans rfl⟩ (fun hHeld => ?_)
       clear hK K
       refine norm_ (a' := ?_) ?_ ?_
       rotate_left
       ·show Act.put _ (some 25) _ = _
        simp only [Act.put, sA, sB, sC, i64_w, i32_w]
        rfl
       refine one_ (i := 6) (N := some 26) (bs 9 127) rfl rfl (one_of HT_.out (by kernel_rfl)) (by decide) (fun K hK => ?_)
       refine Kd.R_append_step (Kd.int .i64) (w0 := w) w.heap.size (by rfl) (.tmp 21) (.tmp 25) 27 3 (.int .i64 0) 8 rfl Try.underlying27 info3 rfl (by decide) (by omega) u331002 x331002_1 t333 [.int .i64 t333] (fun _ => True) (fun _ => False) rfl rfl ?aP (fun _ hk => hk.elim) ?aF ?aO ?aB ?aS ?aL ?_
       (case aP => exact rfl)
       (case aB => exact (by exact zb0 HB))
       (case aF => exact (fun _ _ => trivial))
       (case aO => exact (by exact zr0 HO_331002))
       (case aS => exact (below_size (by exact zb0 HB)))
       (case aL => have := LMc16.out; omega)
       intro v335 w25 ho hb hg hat
       rw [← Ny334.out] at ho
       have n0_ := Aside0.mk (blk_grown (zk0 BK328) hg (Kd.R_ne HO_331002.out BK328.out (by decide)))
       have n1_ := Aside0.mk (blk_grown (zk0 BK329) hg (Kd.R_ne HO_331002.out BK329.out (by decide)))
       have n2_ := Aside0.mk (blk_grown (zk0 BK330) hg (Kd.R_ne HO_331002.out BK330.out (by decide)))
       have n3_ := Aside0.mk (blk_grown (zk0 BK332) hg (Kd.R_ne HO_331002.out BK332.out (by decide)))
       have n4_ := Aside0.mk (hb)
       have n5_ := Aside0.mk (ho)
       clear BK328
       clear BK329
       clear BK330
       clear BK332
       clear HB
       clear HO_331002
       have BK328 := n0_
       have BK329 := n1_
       have BK330 := n2_
       have BK332 := n3_
       have HB := n4_
       have HO336 := n5_
       clear n0_ n1_ n2_ n3_ n4_ n5_
       clear ho hb hg hat
       obtain ⟨Ao26, co26, eo26⟩ := Kd.R_slice HO336.out
       (first | subst eo26 | (injection eo26 with f1_ f2_ f3_; have f4_ := f1_.symm; have f5_ := f3_.symm; clear f1_ f2_ f3_; subst f4_; subst f5_))
       refine hK.out _ _ ⟨(blk_cell BK330.out 0).trans rfl, (blk_cell BK330.out 1).trans rfl, (blk_cell BK330.out 2).trans rfl, (blk_cell BK332.out 0).trans rfl, (blk_cell BK332.out 1).trans rfl, (blk_cell BK332.out 2).trans rfl, (blk_cell BK332.out 3).trans rfl⟩ (fun hHeld => ?_)
       clear hK K
       refine norm_ (a' := ?_) ?_ ?_
       rotate_left
       ·show Act.put _ (some 26) _ = _
        simp only [Act.put, sA, sB, sC, i64_w, i32_w]
        rfl
       refine pure_ (i := 7) (N := some 27) (v := ?_) (a' := ?_) (bs 9 255) rfl rfl (any_of HT_.out (by kernel_rfl)) (fun _ _ _ h => h) (Or.inl ⟨by rfl, ?_⟩) ?_ ?_
       rotate_left
       ·intro w'
        go_simp
        with_reducible rfl
       rotate_left
       ·simp only [Act.put, sA, sB, sC, i64_w, i32_w]
        rfl
       refine last_ (i := 8) (N := none) (bs 9 511) rfl rfl (one_of HT_.out (by kernel_rfl)) (by decide) (fun K hK => ?_)
       have hs27 : w25.cell? ⟨gb330, 2, none⟩ = some (u331002) := (blk_cell BK330.out 2).trans rfl
       have hfs27 := blk_frozen BK330.out 2
       have hns27_0 := NB328_330.out
       have hns27_1 := NB329_330.out
       have hns27_3 := NB332_330.out
       have hms27_0 := NB330_328.out
       have hms27_1 := NB330_329.out
       have hms27_3 := NB330_332.out
       refine skip_ (w1 := ?_) (by rfl) rfl ?_ ?_
       rotate_left
       ·go_simp
        rfl
       refine hK.out _ _ ?_
       clear hK K
       refine done_ (done_of HT_.out (by kernel_rfl)) ?_
       try go_wp2
       go_roundg k1
       case measure => have := HK1.out; omega
       case rel => exact ⟨(wrap64 (x16_1 + 1)), (y334), (.slice Ao26 y334.length co26), (by first | rfl | (simp; done) | (simp [*]; done)), H', ⟨by have := HK1.out; omega⟩, ⟨by exact zro HO336 BK330 (by decide)⟩, ⟨by exact zf BK328 NB328_330⟩, ⟨by exact zf BK329 NB329_330⟩, ⟨by exact zp BK330 rfl⟩, ⟨by exact zbo HB GE330⟩⟩
      ·rw [if_neg c16] at H
       exact absurd H (by simp)
     ·rw [if_neg c14] at H
      exact absurd H (by simp)
    ·rw [if_neg c13] at H
     exact absurd H (by simp)
   ·rw [if_neg c12] at H
    have c12b0 : decide (x16_1 < (l0_2.length : Int)) = false := decide_eq_false c12
    clear c12
    simp only [Option.some.injEq, Prod.mk.injEq] at H
    obtain ⟨rfl, rfl, rfl⟩ := H
    have hnb28 := NB330_328.out
    have hnc28 := NB328_330.out
    have hnb29 := NB330_329.out
    have hnc29 := NB329_330.out
    obtain ⟨hcz30_0, hcz30_1, hcz30_2, hfz30_0, hfz30_1, hfz30_2⟩ := zq3 BK330
    have hnb31 := NB329_328.out
    have hnc31 := NB328_329.out
    obtain ⟨hcz32_0, hcz32_1, hcz32_2, hfz32_0, hfz32_1, hfz32_2⟩ := zq3 BK329
    obtain ⟨Ao33, co33, eo33⟩ := Kd.R_slice HO_331002.out
    subst eo33
    go_wp2
    refine bodyPost_ret (results_cell_row rfl _ _ gb329 29 #[.int .i64 a0_0, .int .i64 a0_1, .slice Ao33 x331002_1.length co33] (0, 0) _ rfl (by exact zp BK329 rfl) Try.underlying29 rfl (by kernel_rfl)) rfl ?_
    exact ⟨_, by first | rfl | (simp [errW_none, errW_some] <;> rfl) | (simp [*, errW_none, errW_some] <;> rfl), by exact zro HO_331002 BK329 (by decide), by exact zbo HB GE329⟩

/-! ### wand_Opaque: function 17 -/
def wand_Opaque.f (k : Nat) (a0_0 : Int) (a0_1 : Int) (l0_2 : List (S37)) : Option (Int × Int × List Int × Int) := (raster_Check.f k a0_0 a0_1 l0_2).bind fun t339 => (if t339 = 0 then ((wand_each__wand_Opaque_1.f k a0_0 a0_1 l0_2).bind fun bt340 => (some (bt340.1, bt340.2.1, bt340.2.2, 0))) else (some (0, 0, ([] : List Int), t339)))
theorem wand_Opaque.mono : ∀ a0 a1 a2 k, LeO (wand_Opaque.f k a0 a1 a2) (wand_Opaque.f (k + 1) a0 a1 a2) := by
 intro a0 a1 a2 k
 unfold wand_Opaque.f
 repeat' first
   | (with_reducible exact raster_Check.mono _ _ _ _)
   | (with_reducible exact wand_each__wand_Opaque_1.mono _ _ _ _)
   | (with_reducible exact LeO.refl _)
   | (with_reducible exact LeO.none _)
   | (with_reducible refine LeO.ite ?_ ?_)
   | (with_reducible refine LeO.bind ?_ (fun _ => ?_))
   | exact raster_Check.mono _ _ _ _
   | exact wand_each__wand_Opaque_1.mono _ _ _ _
   | exact LeO.none _
   | refine LeO.ite ?_ ?_
   | refine LeO.bind ?_ (fun _ => ?_)
set_option maxHeartbeats 8000000 in
set_option maxRecDepth 100000 in
theorem wand_Opaque.calls (k : Nat) (a0_0 : Int) (a0_1 : Int) (A0_2 : Option Addr) (c0_2 : Nat) (l0_2 : List (S37)) (r1 : Int) (r2 : Int) (r3 : List Int) (r4 : Int) (w : World) (hr0_2 : Kd.C k37 w A0_2 l0_2.length l0_2) (hc0_2 : l0_2.length ≤ c0_2) (h : wand_Opaque.f k a0_0 a0_1 l0_2 = some (r1, r2, r3, r4)) :
  Calls Try.prog 17 #[.agg #[.int .i64 a0_0, .int .i64 a0_1, .slice A0_2 l0_2.length c0_2]] w fun e w' => ∃ v2_ : Value, e = .returned (.tuple #[.agg #[.int .i64 r1, .int .i64 r2, v2_], .int .i64 r4]) ∧ Kd.R (Kd.int .i64) 3 w' w.heap.size (fun _ => True) v2_ r3 ∧ Below w.heap.size w w' := by
 have hu24 := Try.underlying24
 have hu29 := Try.underlying29
 have HR0_2 := Aside0.mk hr0_2
 have HC0_2 := Aside0.mk hc0_2
 clear hr0_2 hc0_2
 have HB := Aside0.mk (Below.refl w.heap.size w)
 have H : ((raster_Check.f k a0_0 a0_1 l0_2).bind fun t339 => (if t339 = 0 then ((wand_each__wand_Opaque_1.f k a0_0 a0_1 l0_2).bind fun bt340 => (some (bt340.1, bt340.2.1, bt340.2.2, 0))) else (some (0, 0, ([] : List Int), t339)))) = some (r1, r2, r3, r4) := h
 clear h
 replace H := Option.bind_eq_some_iff.mp H
 obtain ⟨t339, A20, H⟩ := H
 replace H : (if t339 = 0 then ((wand_each__wand_Opaque_1.f k a0_0 a0_1 l0_2).bind fun bt340 => (some (bt340.1, bt340.2.1, bt340.2.2, 0))) else (some (0, 0, ([] : List Int), t339))) = some (r1, r2, r3, r4) := H
 have A2 := Aside0.mk A20
 clear A20
 by_cases c3 : t339 = 0
 ·rw [if_pos c3] at H
  have c3b0 : (t339 == 0) = true := beq_iff_eq.mpr c3
  have c3b1 : (t339 != 0) = false := bne_eq_false_iff_eq.mpr c3
  clear c3
  replace H := Option.bind_eq_some_iff.mp H
  obtain ⟨⟨t340, t341, t342⟩, A40, H⟩ := H
  replace H : (some (t340, t341, t342, 0)) = some (r1, r2, r3, r4) := H
  have A4 := Aside0.mk A40
  clear A40
  simp only [Option.some.injEq, Prod.mk.injEq] at H
  obtain ⟨rfl, rfl, rfl, rfl⟩ := H
  go_enter Try.func17, Try.ntmps17
  go_wp2_with (first | ((with_reducible refine gate_dst (N := 1) rfl ?_); refine box_event ?hg (N := 1) ?hd (cs := #[.int .i64 a0_0, .int .i64 a0_1, .slice A0_2 l0_2.length c0_2]) (t := 24) ?hr ?_; (case hd => rfl); (case hg => rfl); (case hr => first | (go_simp; done) | (go_simp; rfl)); intro gb337 hg w5 hbox hb; have GW337 := zg HB hg; have GE337 := zg HB hg; have n0_ := Aside0.mk (hbox); replace HB := zb HB hb; have BK337 := n0_; clear n0_; clear hb hbox hg) | ((with_reducible refine gate_dst (N := 2) rfl ?_); refine box_event ?hg (N := 2) ?hd (cs := #[.int .i64 0, .int .i64 0, .slice none 0 0]) (t := 29) ?hr ?_; (case hd => rfl); (case hg => rfl); (case hr => first | (go_simp; done) | (go_simp; rfl)); intro gb338 hg w6 hbox hb; have GW338 := zg HB hg; have GE338 := zg HB hg; have NB337_338 := zn BK337 hg; have NB338_337 := zn' BK337 hg; have n0_ := Aside0.mk (hbox); replace BK337 := zk BK337 hb; replace HB := zb HB hb; have BK338 := n0_; clear n0_; clear hb hbox hg; have hnb7 := NB337_338.out; have hnc7 := NB338_337.out; obtain ⟨hcz8_0, hcz8_1, hcz8_2, hfz8_0, hfz8_1, hfz8_2⟩ := zq3 BK337) | ((with_reducible refine gate_callee (f := 22) rfl ?_); refine goesL_ (some 6) rfl rfl Try.func22 (by kernel_rfl) rfl #[.agg #[.int .i64 a0_0, .int .i64 a0_1, .slice A0_2 l0_2.length c0_2]] rfl (by (try simp only [List.map_toArray, List.map_cons, List.map_nil]); first | done | rfl | (simp only [List.length_drop, List.length_take]; rfl)) ?_; (with_reducible refine (raster_Check.calls k a0_0 a0_1 _ _ l0_2 t339 _ ?side1 ?side2 A2.out).mono ?_); (case side1 => repeat (first | exact (Kd.C_below HR0_2.out HB.out) | (with_reducible refine Kd.C_alloc ?_ _) | (with_reducible refine Kd.C_drewN ?_ _) | (with_reducible refine Kd.C_drew ?_))); (case side2 => exact HC0_2.out); rintro e w9 ⟨rfl, hb⟩; refine ⟨_, rfl, ?_⟩; replace BK337 := zk BK337 hb; replace BK338 := zk BK338 hb; replace HB := zb HB hb; (try clear hb); (try clear hb2); (try clear hk); (try clear hi); obtain ⟨hcz10_0, hcz10_1, hcz10_2, hfz10_0, hfz10_1, hfz10_2⟩ := zq3 BK337) | ((with_reducible refine gate_callee (f := 31) rfl ?_); refine goesL_ (some 12) rfl rfl Try.func31 (by kernel_rfl) rfl #[.agg #[.int .i64 a0_0, .int .i64 a0_1, .slice A0_2 l0_2.length c0_2], .func (.func 38) #[] #[]] rfl (by (try simp only [List.map_toArray, List.map_cons, List.map_nil]); first | done | rfl | (simp only [List.length_drop, List.length_take]; rfl)) ?_; (with_reducible refine (wand_each__wand_Opaque_1.calls k a0_0 a0_1 _ _ l0_2  t340 t341 t342 _ ?side1 ?side2 A4.out).mono ?_); (case side1 => repeat (first | exact (Kd.C_below HR0_2.out HB.out) | (with_reducible refine Kd.C_alloc ?_ _) | (with_reducible refine Kd.C_drewN ?_ _) | (with_reducible refine Kd.C_drew ?_))); (case side2 => exact HC0_2.out); rintro e w11 ⟨v343, rfl, ho0, hb⟩; refine ⟨_, rfl, ?_⟩; have HO344 := zl HB ho0; replace BK337 := zk BK337 hb; replace BK338 := zk BK338 hb; replace HB := zb HB hb; (try clear hb); (try clear hb2); (try clear hk); (try clear hi); (try clear ho0); obtain ⟨hcz12_0, hcz12_1, hcz12_2, hfz12_0, hfz12_1, hfz12_2⟩ := zq3 BK338; obtain ⟨Ao13, co13, eo13⟩ := Kd.R_slice HO344.out; subst eo13))
  refine bodyPost_ret (results_ct rfl _ _ gb338 29 #[.int .i64 t340, .int .i64 t341, .slice Ao13 t342.length co13] (0, 0) _ rfl (by exact zp BK338 rfl) Try.underlying29 rfl (by kernel_rfl)) rfl ?_
  exact ⟨_, by first | rfl | (simp [errW_none, errW_some] <;> rfl) | (simp [*, errW_none, errW_some] <;> rfl), by exact zro HO344 BK338 (by decide), by exact zbo HB GE338⟩
 ·rw [if_neg c3] at H
  have c3b0 : (t339 == 0) = false := beq_eq_false_iff_ne.mpr c3
  have c3b1 : (t339 != 0) = true := bne_iff_ne.mpr c3
  simp only [Option.some.injEq, Prod.mk.injEq] at H
  obtain ⟨rfl, rfl, rfl, rfl⟩ := H
  go_enter Try.func17, Try.ntmps17
  go_wp2_with (first | ((with_reducible refine gate_dst (N := 1) rfl ?_); refine box_event ?hg (N := 1) ?hd (cs := #[.int .i64 a0_0, .int .i64 a0_1, .slice A0_2 l0_2.length c0_2]) (t := 24) ?hr ?_; (case hd => rfl); (case hg => rfl); (case hr => first | (go_simp; done) | (go_simp; rfl)); intro gb337 hg w14 hbox hb; have GW337 := zg HB hg; have GE337 := zg HB hg; have n0_ := Aside0.mk (hbox); replace HB := zb HB hb; have BK337 := n0_; clear n0_; clear hb hbox hg) | ((with_reducible refine gate_dst (N := 2) rfl ?_); refine box_event ?hg (N := 2) ?hd (cs := #[.int .i64 0, .int .i64 0, .slice none 0 0]) (t := 29) ?hr ?_; (case hd => rfl); (case hg => rfl); (case hr => first | (go_simp; done) | (go_simp; rfl)); intro gb338 hg w15 hbox hb; have GW338 := zg HB hg; have GE338 := zg HB hg; have NB337_338 := zn BK337 hg; have NB338_337 := zn' BK337 hg; have n0_ := Aside0.mk (hbox); replace BK337 := zk BK337 hb; replace HB := zb HB hb; have BK338 := n0_; clear n0_; clear hb hbox hg; have hnb16 := NB337_338.out; have hnc16 := NB338_337.out; obtain ⟨hcz17_0, hcz17_1, hcz17_2, hfz17_0, hfz17_1, hfz17_2⟩ := zq3 BK337) | ((with_reducible refine gate_callee (f := 22) rfl ?_); refine goesL_ (some 6) rfl rfl Try.func22 (by kernel_rfl) rfl #[.agg #[.int .i64 a0_0, .int .i64 a0_1, .slice A0_2 l0_2.length c0_2]] rfl (by (try simp only [List.map_toArray, List.map_cons, List.map_nil]); first | done | rfl | (simp only [List.length_drop, List.length_take]; rfl)) ?_; (with_reducible refine (raster_Check.calls k a0_0 a0_1 _ _ l0_2 t339 _ ?side1 ?side2 A2.out).mono ?_); (case side1 => repeat (first | exact (Kd.C_below HR0_2.out HB.out) | (with_reducible refine Kd.C_alloc ?_ _) | (with_reducible refine Kd.C_drewN ?_ _) | (with_reducible refine Kd.C_drew ?_))); (case side2 => exact HC0_2.out); rintro e w18 ⟨rfl, hb⟩; refine ⟨_, rfl, ?_⟩; replace BK337 := zk BK337 hb; replace BK338 := zk BK338 hb; replace HB := zb HB hb; (try clear hb); (try clear hb2); (try clear hk); (try clear hi); obtain ⟨hcz19_0, hcz19_1, hcz19_2, hfz19_0, hfz19_1, hfz19_2⟩ := zq3 BK338))
  refine bodyPost_ret (results_ct rfl _ _ gb338 29 #[.int .i64 0, .int .i64 0, .slice none 0 0] (0, 0) _ rfl (by exact zp BK338 rfl) Try.underlying29 rfl (by kernel_rfl)) rfl ?_
  exact ⟨_, by first | rfl | (simp [errW_none, errW_some] <;> rfl) | (simp [*, errW_none, errW_some] <;> rfl), by first | exact Kd.R_nil _ _ _ _ _ | exact Kd.N_nil _ _ _ _ _ | exact Kd.V_nil _ _ _ _ _ | exact Kd.Q_nil _ _ _ _ _ | exact Kd.S_nil _ _ _ _ _, by exact zbo HB GE338⟩

/-! ### imageeditorlaw24_reds: function 28 -/
def imageeditorlaw24_reds.l0 : Nat → List Int → Int → Int → Int → Int → List (S37) → Option (Int × Int × (List (S37)))
 | 0, _, _, _, _, _, _ => none
 | k + 1, x14, x15, x16, x347000, x347001, x347002 => if x16 < x15 then (if 0 ≤ x16 then (if x16 < (x14.length : Int) then (if x347002.length < 4398046511104 then (imageeditorlaw24_reds.l0 k x14 x15 (wrap64 (x16 + 1)) x347000 x347001 (x347002 ++ [(⟨rd x14 x16, 0, 0, 0⟩ : S37)])) else (none)) else (none)) else (none)) else (some (x347000, x347001, x347002))
def imageeditorlaw24_reds.f (k : Nat) (a0 : Int) (l1 : List Int) : Option (Int × Int × (List (S37))) := if a0 = 0 then (none) else (imageeditorlaw24_reds.l0 k l1 (l1.length : Int) 0 a0 (wrap64 ((l1.length : Int) / a0)) ([] : List (S37)))
theorem imageeditorlaw24_reds.mono_l : ∀ k, (∀ y0 y1 y2 y3 y4 y5, LeO (imageeditorlaw24_reds.l0 k y0 y1 y2 y3 y4 y5) (imageeditorlaw24_reds.l0 (k + 1) y0 y1 y2 y3 y4 y5))
 | 0 => fun _ _ _ _ _ _ r h => by simp [imageeditorlaw24_reds.l0] at h
 | k + 1 => by
  have ih0 := imageeditorlaw24_reds.mono_l k
  ·intro y0 y1 y2 y3 y4 y5
   unfold imageeditorlaw24_reds.l0
   repeat' first
   | (with_reducible exact ih0 _ _ _ _ _ _)
   | (with_reducible exact LeO.refl _)
   | (with_reducible exact LeO.none _)
   | (with_reducible refine LeO.ite ?_ ?_)
   | (with_reducible refine LeO.bind ?_ (fun _ => ?_))
   | exact ih0 _ _ _ _ _ _
   | exact LeO.none _
   | refine LeO.ite ?_ ?_
   | refine LeO.bind ?_ (fun _ => ?_)
theorem imageeditorlaw24_reds.mono : ∀ a0 a1 k, LeO (imageeditorlaw24_reds.f k a0 a1) (imageeditorlaw24_reds.f (k + 1) a0 a1) := by
 intro a0 a1 k
 have ih0 := imageeditorlaw24_reds.mono_l k
 unfold imageeditorlaw24_reds.f
 repeat' first
   | (with_reducible exact ih0 _ _ _ _ _ _)
   | (with_reducible exact LeO.refl _)
   | (with_reducible exact LeO.none _)
   | (with_reducible refine LeO.ite ?_ ?_)
   | (with_reducible refine LeO.bind ?_ (fun _ => ?_))
   | exact ih0 _ _ _ _ _ _
   | exact LeO.none _
   | refine LeO.ite ?_ ?_
   | refine LeO.bind ?_ (fun _ => ?_)
set_option maxHeartbeats 8000000 in
set_option maxRecDepth 100000 in
theorem imageeditorlaw24_reds.calls (k : Nat) (a0 : Int) (A1 : Option Addr) (c1 : Nat) (l1 : List Int) (r1 : Int) (r2 : Int) (r3 : List (S37)) (w : World) (hr1 : Kd.C (Kd.int .i64) w A1 l1.length l1) (hc1 : l1.length ≤ c1) (h : imageeditorlaw24_reds.f k a0 l1 = some (r1, r2, r3)) :
  Calls Try.prog 28 #[.int .i64 a0, .slice A1 l1.length c1] w fun e w' => ∃ v2_ : Value, e = .returned (.agg #[.int .i64 r1, .int .i64 r2, v2_]) ∧ Kd.R k37 37 w' w.heap.size (fun _ => True) v2_ r3 ∧ Below w.heap.size w w' := by
 have hu24 := Try.underlying24
 have hu37 := Try.underlying37
 have HR1 := Aside0.mk hr1
 have HC1 := Aside0.mk hc1
 clear hr1 hc1
 have HB := Aside0.mk (Below.refl w.heap.size w)
 have H : (if a0 = 0 then (none) else (imageeditorlaw24_reds.l0 k l1 (l1.length : Int) 0 a0 (wrap64 ((l1.length : Int) / a0)) ([] : List (S37)))) = some (r1, r2, r3) := h
 clear h
 by_cases c3 : a0 = 0
 ·rw [if_pos c3] at H
  exact absurd H (by simp)
 ·rw [if_neg c3] at H
  have c3b0 : (a0 == 0) = false := beq_eq_false_iff_ne.mpr c3
  have c3b1 : (a0 != 0) = true := bne_iff_ne.mpr c3
  have H' := Aside0.mk H
  clear H
  go_enter Try.func28, Try.ntmps28
  go_wp2_with (first | ((with_reducible refine gate_dst (N := 4) rfl ?_); refine box_event ?hg (N := 4) ?hd (cs := #[.int .i64 0, .int .i64 0, .slice none 0 0]) (t := 24) ?hr ?_; (case hd => rfl); (case hg => rfl); (case hr => first | (go_simp; done) | (go_simp; rfl)); intro gb345 hg w4 hbox hb; have GW345 := zg HB hg; have GE345 := zg HB hg; have n0_ := Aside0.mk (hbox); replace HB := zb HB hb; have BK345 := n0_; clear n0_; clear hb hbox hg) | ((with_reducible refine gate_dst (N := 5) rfl ?_); refine box_event ?hg (N := 5) ?hd (cs := #[.int .i64 0, .int .i64 0, .slice none 0 0]) (t := 24) ?hr ?_; (case hd => rfl); (case hg => rfl); (case hr => first | (go_simp; done) | (go_simp; rfl)); intro gb346 hg w5 hbox hb; have GW346 := zg HB hg; have GE346 := zg HB hg; have NB345_346 := zn BK345 hg; have NB346_345 := zn' BK345 hg; have n0_ := Aside0.mk (hbox); replace BK345 := zk BK345 hb; replace HB := zb HB hb; have BK346 := n0_; clear n0_; clear hb hbox hg; have hnb6 := NB346_345.out; have hnc6 := NB345_346.out; obtain ⟨hcz7_0, hcz7_1, hcz7_2, hfz7_0, hfz7_1, hfz7_2⟩ := zq3 BK346))
  (try simp only [Act.put, sA, sB, sC])
  go_loopg [16] k (fun kq v16 w' => ∃ (x16_1 : Int) (x347002_1 : List (S37)) (u347002 : Value), v16 = .int .i64 x16_1 ∧ Aside0 (imageeditorlaw24_reds.l0 kq l1 (l1.length : Int) x16_1 a0 (wrap64 ((l1.length : Int) / a0)) x347002_1 = some (r1, r2, r3)) ∧ Aside0 (kq ≤ k) ∧ Aside0 (Kd.R k37 37 w' w.heap.size (fun _ => True) u347002 x347002_1) ∧ Aside0 (w'.heap[gb345]? = some (.cells #[.int .i64 0, .int .i64 0, (.slice none 0 0)] 24 (0, 0))) ∧ Aside0 (w'.heap[gb346]? = some (.cells #[.int .i64 a0, .int .i64 (wrap64 ((l1.length : Int) / a0)), u347002] 24 (0, 0))) ∧ Aside0 (Below w.heap.size w w'))
  case atStart => exact ⟨(0), (([] : List (S37))), (.slice none 0 0), (by first | rfl | (simp; done) | (simp [*]; done)), H', ⟨Nat.le_refl _⟩, ⟨by first | exact Kd.R_nil _ _ _ _ _ | exact Kd.N_nil _ _ _ _ _ | exact Kd.V_nil _ _ _ _ _ | exact Kd.Q_nil _ _ _ _ _ | exact Kd.S_nil _ _ _ _ _⟩, ⟨by exact zf BK345 NB345_346⟩, ⟨by exact zp BK346 rfl⟩, ⟨by exact zbo HB GE346⟩⟩
  case round =>
   clear H'
   try clear c1
   try clear c2
   try clear p2
   try clear c3
   try clear c3b0
   try clear c3b1
   try clear q3
   try clear c6
   try clear p6
   try clear hcz7_0
   try clear hcz7_1
   try clear hcz7_2
   try clear hfz7_0
   try clear hfz7_1
   try clear hfz7_2
   obtain ⟨x16_1, x347002_1, u347002, rfl, HA, HK1, HO_347002, BK345, BK346, HB⟩ := hrel
   cases gk with
   | zero => exact absurd HA.out (by simp [imageeditorlaw24_reds.l0])
   | succ k1 =>
    have H := HA.out
    clear HA
    simp only [imageeditorlaw24_reds.l0] at H
    by_cases c8 : x16_1 < (l1.length : Int)
    ·rw [if_pos c8] at H
     have c8b0 : decide (x16_1 < (l1.length : Int)) = true := decide_eq_true c8
     clear c8
     by_cases c9 : 0 ≤ x16_1
     ·rw [if_pos c9] at H
      have c9b0 : decide (0 ≤ x16_1) = true := decide_eq_true c9
      clear c9
      by_cases c10 : x16_1 < (l1.length : Int)
      ·rw [if_pos c10] at H
       have c10b0 : decide (x16_1 < (l1.length : Int)) = true := decide_eq_true c10
       clear c10
       by_cases c11 : x347002_1.length < 4398046511104
       ·rw [if_pos c11] at H
        have LMc11 := Aside0.mk c11
        clear c11
        obtain ⟨y348, hy348⟩ : ∃ y_ : List (S37), y_ = (x347002_1 ++ [(⟨rd l1 x16_1, 0, 0, 0⟩ : S37)]) := ⟨_, rfl⟩
        replace H : (imageeditorlaw24_reds.l0 k1 l1 (l1.length : Int) (wrap64 (x16_1 + 1)) a0 (wrap64 ((l1.length : Int) / a0)) y348) = some (r1, r2, r3) := by first | (rw [hy348]; with_reducible exact H) | (have H2_ := (Option.bind_some _ _).symm.trans H; rw [hy348]; with_reducible exact H2_) | (have H2_ := (Option.bind_some _ _).symm.trans H; with_reducible exact H2_) | with_reducible exact H | (rw [hy348]; exact H) | exact H
        have Ny348 := Aside0.mk hy348
        clear hy348
        have H' := Aside0.mk H
        clear H
        have p347 : 0 ≤ (x16_1 : Int) := of_decide_eq_true (by first | (with_reducible assumption) | assumption)
        have q347 : x16_1 < (l1.length : Int) := of_decide_eq_true (by first | (with_reducible assumption) | assumption)
        obtain ⟨ad347, e347, hx347_0⟩ := Kd.at_int HR1.out x16_1 p347 q347
        cases e347
        replace hx347_0 := (HB.out.cell (World.block_lt_of_cell? w _ hx347_0)).trans hx347_0
        replace p347 := eq_true p347
        replace q347 := eq_true q347
        have hnb12 := NB346_345.out
        have hnc12 := NB345_346.out
        obtain ⟨hcz13_0, hcz13_1, hcz13_2, hfz13_0, hfz13_1, hfz13_2⟩ := zq3 BK346
        go_wp2_with (first | ((with_reducible refine gate_builtin (b := .append) (xs := #[.tmp 21, .tmp 24]) rfl ?_); at_builtin; refine Kd.R_append k37 (w0 := w) w.heap.size rfl (.tmp 21) (.tmp 24) 22 37 (.agg #[(.int .i64 0), (.int .i64 0), (.int .i64 0), (.int .i64 0)]) 32 rfl Try.underlying22 info37 rfl (by decide) (by omega) u347002 x347002_1 (⟨rd l1 x16_1, 0, 0, 0⟩ : S37) [.int .i64 (rd l1 x16_1), .int .i64 0, .int .i64 0, .int .i64 0] (fun _ => True) (fun _ => False) rfl rfl ?aP (fun _ hk => hk.elim) ?aF ?aO ?aB ?aS ?aL ?_; (case aP => exact k37_mkM _ _ _ (⟨rd l1 x16_1, 0, 0, 0⟩ : S37)); (case aB => exact (by exact zb0 HB)); (case aF => exact (fun _ _ => trivial)); (case aO => exact (by exact zr0 HO_347002)); (case aS => exact (below_size (by exact zb0 HB))); (case aL => have := LMc11.out; omega); intro v349 w14 ho hb hg hat; rw [← Ny348.out] at ho; have n0_ := Aside0.mk (blk_grown (zk0 BK345) hg (Kd.R_ne HO_347002.out BK345.out (by decide))); have n1_ := Aside0.mk (blk_grown (zk0 BK346) hg (Kd.R_ne HO_347002.out BK346.out (by decide))); have n2_ := Aside0.mk (hb); have n3_ := Aside0.mk (ho); clear BK345; clear BK346; clear HB; clear HO_347002; have BK345 := n0_; have BK346 := n1_; have HB := n2_; have HO350 := n3_; clear n0_ n1_ n2_ n3_; clear ho hb hg hat; obtain ⟨Ao15, co15, eo15⟩ := Kd.R_slice HO350.out; subst eo15; obtain ⟨hcz16_0, hcz16_1, hcz16_2, hfz16_0, hfz16_1, hfz16_2⟩ := zq3 BK346))
        go_roundg k1
        case measure => have := HK1.out; omega
        case rel => exact ⟨(wrap64 (x16_1 + 1)), (y348), (.slice Ao15 y348.length co15), (by first | rfl | (simp; done) | (simp [*]; done)), H', ⟨by have := HK1.out; omega⟩, ⟨by exact zro HO350 BK346 (by decide)⟩, ⟨by exact zf BK345 NB345_346⟩, ⟨by exact zp BK346 rfl⟩, ⟨by exact zbo HB GE346⟩⟩
       ·rw [if_neg c11] at H
        exact absurd H (by simp)
      ·rw [if_neg c10] at H
       exact absurd H (by simp)
     ·rw [if_neg c9] at H
      exact absurd H (by simp)
    ·rw [if_neg c8] at H
     have c8b0 : decide (x16_1 < (l1.length : Int)) = false := decide_eq_false c8
     clear c8
     simp only [Option.some.injEq, Prod.mk.injEq] at H
     obtain ⟨rfl, rfl, rfl⟩ := H
     have hnb17 := NB346_345.out
     have hnc17 := NB345_346.out
     obtain ⟨hcz18_0, hcz18_1, hcz18_2, hfz18_0, hfz18_1, hfz18_2⟩ := zq3 BK346
     obtain ⟨hcz19_0, hcz19_1, hcz19_2, hfz19_0, hfz19_1, hfz19_2⟩ := zq3 BK345
     obtain ⟨Ao20, co20, eo20⟩ := Kd.R_slice HO_347002.out
     subst eo20
     go_wp2
     refine bodyPost_ret (results_cell_row rfl _ _ gb345 24 #[.int .i64 a0, .int .i64 (wrap64 ((l1.length : Int) / a0)), .slice Ao20 x347002_1.length co20] (0, 0) _ rfl (by exact zp BK345 rfl) Try.underlying24 rfl (by kernel_rfl)) rfl ?_
     exact ⟨_, by first | rfl | (simp [errW_none, errW_some] <;> rfl) | (simp [*, errW_none, errW_some] <;> rfl), by exact zro HO_347002 BK345 (by decide), by exact zbo HB GE345⟩

/-! ### imageeditorlaw24_values: function 29 -/
def imageeditorlaw24_values.f (a0 : Int) (l1 : List Int) : Option (Int × Int × List Int) := if a0 = 0 then (none) else (some (a0, wrap64 ((l1.length : Int) / a0), l1))
set_option maxHeartbeats 8000000 in
set_option maxRecDepth 100000 in
theorem imageeditorlaw24_values.calls (a0 : Int) (P1_ : Nat → Prop) (u9000_ : Value) (l1 : List Int) (r1 : Int) (r2 : Int) (r3 : List Int) (w0 w : World) (hB : Below w0.heap.size w0 w) (ho1 : Kd.R (Kd.int .i64) 3 w w0.heap.size P1_ u9000_ l1) (h : imageeditorlaw24_values.f a0 l1 = some (r1, r2, r3)) :
  Calls Try.prog 29 #[.int .i64 a0, u9000_] w fun e w' => ∃ v2_ : Value, e = .returned (.agg #[.int .i64 r1, .int .i64 r2, v2_]) ∧ Kd.R (Kd.int .i64) 3 w' w0.heap.size (fun k_ => (P1_ k_ ∨ w.heap.size ≤ k_)) v2_ r3 ∧ Below w0.heap.size w0 w' ∧ Kept w w' (fun k_ => P1_ k_) := by
 have hu29 := Try.underlying29
 have HO1 := Aside0.mk (show Kd.R (Kd.int .i64) 3 w w0.heap.size (fun k_ => (P1_ k_ ∨ w.heap.size ≤ k_)) u9000_ l1 from Kd.R_mono ho1 (fun k_ hk => (.inl hk)))
 have HK := Aside0.mk (Kept.refl w (fun k_ => P1_ k_))
 have HW0 := Aside0.mk hB.size
 have HB := Aside0.mk hB
 clear hB
 have H : (if a0 = 0 then (none) else (some (a0, wrap64 ((l1.length : Int) / a0), l1))) = some (r1, r2, r3) := h
 clear h
 by_cases c3 : a0 = 0
 ·rw [if_pos c3] at H
  exact absurd H (by simp)
 ·rw [if_neg c3] at H
  have c3b0 : (a0 == 0) = false := beq_eq_false_iff_ne.mpr c3
  have c3b1 : (a0 != 0) = true := bne_iff_ne.mpr c3
  simp only [Option.some.injEq, Prod.mk.injEq] at H
  obtain ⟨rfl, rfl, rfl⟩ := H
  go_enter Try.func29, Try.ntmps29
  go_wp2_with (first | ((with_reducible refine gate_dst (N := 4) rfl ?_); refine box_event ?hg (N := 4) ?hd (cs := #[.int .i64 0, .int .i64 0, .slice none 0 0]) (t := 29) ?hr ?_; (case hd => rfl); (case hg => rfl); (case hr => first | (go_simp; done) | (go_simp; rfl)); intro gb351 hg w4 hbox hb; have n0_ := Aside0.mk (Kept.below (S := (fun k_ => P1_ k_)) (by repeat (first | (with_reducible first | exact HK.out | apply Kept.alloc | apply Kept.drewN | apply Kept.drew) | exact HK.out)) hb); have n1_ := Aside0.mk (below_step (by repeat (first | (with_reducible first | exact HB.out | apply below_alloc | apply pw_below_drewN | apply below_drew1) | exact HB.out)) hb); have n2_ := Aside0.mk (hbox); have n3_ := Aside0.mk ((by rw [hg]; exact (by first | exact HK.out.1 | exact (show Kept w _ (fun k_ => P1_ k_) from by repeat (first | (with_reducible first | exact HK.out | apply Kept.alloc | apply Kept.drewN | apply Kept.drew) | exact HK.out)).1) : w.heap.size ≤ gb351)); have n4_ := Aside0.mk ((by rw [hg]; exact (below_size (by repeat (first | (with_reducible first | exact HB.out | apply below_alloc | apply pw_below_drewN | apply below_drew1) | exact HB.out))) : w0.heap.size ≤ gb351)); replace HO1 := zr HO1 hb; clear HK; clear HB; have HK := n0_; have HB := n1_; have BK351 := n2_; have GW351 := n3_; have GE351 := n4_; clear n0_ n1_ n2_ n3_ n4_; clear hb hbox hg; obtain ⟨Ao5, co5, eo5⟩ := Kd.R_slice HO1.out; subst eo5; obtain ⟨hcz6_0, hcz6_1, hcz6_2, hfz6_0, hfz6_1, hfz6_2⟩ := zq3 BK351))
  refine bodyPost_ret (results_cell_row rfl _ _ gb351 29 #[.int .i64 a0, .int .i64 (wrap64 ((l1.length : Int) / a0)), .slice Ao5 l1.length co5] (0, 0) _ rfl (by exact zp BK351 rfl) Try.underlying29 rfl (by kernel_rfl)) rfl ?_
  exact ⟨_, by first | rfl | (simp [errW_none, errW_some] <;> rfl) | (simp [*, errW_none, errW_some] <;> rfl), by exact zro HO1 BK351 (by decide), by repeat (first | (with_reducible first | exact HB.out | apply below_alloc | apply pw_below_drewN | apply below_drew1 | refine below_set ?_ GE351.out) | exact HB.out), by repeat (first | (with_reducible first | exact HK.out | apply Kept.alloc | apply Kept.drewN | apply Kept.drew | refine Kept.setCell ?_ (.inr GW351.out) _) | exact HK.out)⟩

end Go.Proofs.Ytmmncannibnklaa.G
