-- Written by a program of this session (wip/gx.py over the kit's print); Lean checks it.
import Derived.Test.YtmmncannibnklaaG0
import Derived.Test.YtmmncannibnklaaG6
import Derived.Test.YtmmncannibnklaaG10
import Derived.Test.YtmmncannibnklaaG11
import Derived.Test.YtmmncannibnklaaG12
import Derived.Test.YtmmncannibnklaaG13
import Derived.Test.YtmmncannibnklaaG14
import Derived.Test.YtmmncannibnklaaG15
import Derived.Test.YtmmncannibnklaaG17
namespace Go.Proofs.Ytmmncannibnklaa.G
open Go.RowKit Go.Proofs.YtmmncannibnklaaW.PrintWords Go.Proofs.YtmmncannibnklaaW.PrintLast Go.Proofs.YtmmncannibnklaaW.PrintMore
attribute [local go_sem] max2_int min2_int max_two min_two max_three min_three max_four min_four   -- for this text's walks alone
set_option linter.unusedVariables false
set_option linter.unusedSimpArgs false

/-! ### imageeditorref24_Opaque: function 18 -/
def imageeditorref24_Opaque.l0 : Nat → Int → Int → Int → Int → List (S37) → Int → Int → List Int → Option (Int × Int × List Int × Int)
 | 0, _, _, _, _, _, _, _, _ => none
 | k + 1, x20, x21, x547000, x547001, x547002, x550000, x550001, x550002 => if x21 < x20 then (if 0 ≤ x21 then (if x21 < (x547002.length : Int) then (if x550002.length < 17592186044416 then (imageeditorref24_Opaque.l0 k x20 (wrap64 (x21 + 1)) x547000 x547001 x547002 x550000 x550001 (x550002 ++ [(rd_T37 x547002 x21).f3])) else (none)) else (none)) else (none)) else (some (x550000, x550001, x550002, 0))
def imageeditorref24_Opaque.f (k : Nat) (a0_0 : Int) (a0_1 : Int) (l0_2 : List (S37)) : Option (Int × Int × List Int × Int) := (imageeditorref11_Check.f k a0_0 a0_1 l0_2).bind fun t548 => (if t548 = 0 then (imageeditorref24_Opaque.l0 k (l0_2.length : Int) 0 a0_0 a0_1 l0_2 a0_0 a0_1 ([] : List Int)) else (some (0, 0, ([] : List Int), t548)))
theorem imageeditorref24_Opaque.mono_l : ∀ k, (∀ y0 y1 y2 y3 y4 y5 y6 y7, LeO (imageeditorref24_Opaque.l0 k y0 y1 y2 y3 y4 y5 y6 y7) (imageeditorref24_Opaque.l0 (k + 1) y0 y1 y2 y3 y4 y5 y6 y7))
 | 0 => fun _ _ _ _ _ _ _ _ r h => by simp [imageeditorref24_Opaque.l0] at h
 | k + 1 => by
  have ih0 := imageeditorref24_Opaque.mono_l k
  ·intro y0 y1 y2 y3 y4 y5 y6 y7
   unfold imageeditorref24_Opaque.l0
   repeat' first
   | (with_reducible exact ih0 _ _ _ _ _ _ _ _)
   | (with_reducible exact imageeditorref11_Check.mono _ _ _ _)
   | (with_reducible exact LeO.refl _)
   | (with_reducible exact LeO.none _)
   | (with_reducible refine LeO.ite ?_ ?_)
   | (with_reducible refine LeO.bind ?_ (fun _ => ?_))
   | exact ih0 _ _ _ _ _ _ _ _
   | exact imageeditorref11_Check.mono _ _ _ _
   | exact LeO.none _
   | refine LeO.ite ?_ ?_
   | refine LeO.bind ?_ (fun _ => ?_)
theorem imageeditorref24_Opaque.mono : ∀ a0 a1 a2 k, LeO (imageeditorref24_Opaque.f k a0 a1 a2) (imageeditorref24_Opaque.f (k + 1) a0 a1 a2) := by
 intro a0 a1 a2 k
 have ih0 := imageeditorref24_Opaque.mono_l k
 unfold imageeditorref24_Opaque.f
 repeat' first
   | (with_reducible exact ih0 _ _ _ _ _ _ _ _)
   | (with_reducible exact imageeditorref11_Check.mono _ _ _ _)
   | (with_reducible exact LeO.refl _)
   | (with_reducible exact LeO.none _)
   | (with_reducible refine LeO.ite ?_ ?_)
   | (with_reducible refine LeO.bind ?_ (fun _ => ?_))
   | exact ih0 _ _ _ _ _ _ _ _
   | exact imageeditorref11_Check.mono _ _ _ _
   | exact LeO.none _
   | refine LeO.ite ?_ ?_
   | refine LeO.bind ?_ (fun _ => ?_)
def imageeditorref24_Opaque.T8 : Bool × List (List Nat × List Nat) := (true, [([], []), ([0], [0]), ([], []), ([2], [2]), ([], []), ([3, 4], [3, 4]), ([5], [5]), ([6], [6]), ([7], [7]), ([1, 8], [1, 8]), ([0, 1, 2, 3, 4, 5, 6, 7, 8, 9], []), ([10, 9, 9, 0, 1, 2, 3, 4, 5, 6, 7, 8, 9], [9, 10])])
def imageeditorref24_Opaque.B8 : List Nat := [0, 1, 0, 4, 0, 28, 60, 124, 252, 511, 1023, 2047]
theorem imageeditorref24_Opaque.tab8 : rtab .any (opsOf Try.f18 8) = imageeditorref24_Opaque.T8 := by kernel_rfl
theorem imageeditorref24_Opaque.bits8 : waitsOk imageeditorref24_Opaque.T8.2 imageeditorref24_Opaque.B8 = true := by kernel_rfl
set_option maxHeartbeats 8000000 in
set_option maxRecDepth 100000 in
theorem imageeditorref24_Opaque.calls (k : Nat) (a0_0 : Int) (a0_1 : Int) (A0_2 : Option Addr) (c0_2 : Nat) (l0_2 : List (S37)) (r1 : Int) (r2 : Int) (r3 : List Int) (r4 : Int) (w : World) (hr0_2 : Kd.C k37 w A0_2 l0_2.length l0_2) (hc0_2 : l0_2.length ≤ c0_2) (h : imageeditorref24_Opaque.f k a0_0 a0_1 l0_2 = some (r1, r2, r3, r4)) :
  Calls Try.prog 18 #[.agg #[.int .i64 a0_0, .int .i64 a0_1, .slice A0_2 l0_2.length c0_2]] w fun e w' => ∃ v2_ : Value, e = .returned (.tuple #[.agg #[.int .i64 r1, .int .i64 r2, v2_], .int .i64 r4]) ∧ Kd.R (Kd.int .i64) 3 w' w.heap.size (fun _ => True) v2_ r3 ∧ Below w.heap.size w w' := by
 have hu24 := Try.underlying24
 have hu29 := Try.underlying29
 have HR0_2 := Aside0.mk hr0_2
 have HC0_2 := Aside0.mk hc0_2
 clear hr0_2 hc0_2
 have HB := Aside0.mk (Below.refl w.heap.size w)
 have H : ((imageeditorref11_Check.f k a0_0 a0_1 l0_2).bind fun t548 => (if t548 = 0 then (imageeditorref24_Opaque.l0 k (l0_2.length : Int) 0 a0_0 a0_1 l0_2 a0_0 a0_1 ([] : List Int)) else (some (0, 0, ([] : List Int), t548)))) = some (r1, r2, r3, r4) := h
 clear h
 replace H := Option.bind_eq_some_iff.mp H
 obtain ⟨t548, A20, H⟩ := H
 replace H : (if t548 = 0 then (imageeditorref24_Opaque.l0 k (l0_2.length : Int) 0 a0_0 a0_1 l0_2 a0_0 a0_1 ([] : List Int)) else (some (0, 0, ([] : List Int), t548))) = some (r1, r2, r3, r4) := H
 have A2 := Aside0.mk A20
 clear A20
 by_cases c3 : t548 = 0
 ·rw [if_pos c3] at H
  have c3b0 : (t548 == 0) = true := beq_iff_eq.mpr c3
  have c3b1 : (t548 != 0) = false := bne_eq_false_iff_eq.mpr c3
  clear c3
  have H' := Aside0.mk H
  clear H
  go_enter Try.func18, Try.ntmps18
  go_wp2_with (first | ((with_reducible refine gate_dst (N := 1) rfl ?_); refine box_event ?hg (N := 1) ?hd (cs := #[.int .i64 a0_0, .int .i64 a0_1, .slice A0_2 l0_2.length c0_2]) (t := 24) ?hr ?_; (case hd => rfl); (case hg => rfl); (case hr => first | (go_simp; done) | (go_simp; rfl)); intro gb546 hg w4 hbox hb; have GW546 := zg HB hg; have GE546 := zg HB hg; have n0_ := Aside0.mk (hbox); replace HB := zb HB hb; have BK546 := n0_; clear n0_; clear hb hbox hg) | ((with_reducible refine gate_dst (N := 2) rfl ?_); refine box_event ?hg (N := 2) ?hd (cs := #[.int .i64 0, .int .i64 0, .slice none 0 0]) (t := 29) ?hr ?_; (case hd => rfl); (case hg => rfl); (case hr => first | (go_simp; done) | (go_simp; rfl)); intro gb547 hg w5 hbox hb; have GW547 := zg HB hg; have GE547 := zg HB hg; have NB546_547 := zn BK546 hg; have NB547_546 := zn' BK546 hg; have n0_ := Aside0.mk (hbox); replace BK546 := zk BK546 hb; replace HB := zb HB hb; have BK547 := n0_; clear n0_; clear hb hbox hg; have hnb6 := NB546_547.out; have hnc6 := NB547_546.out; obtain ⟨hcz7_0, hcz7_1, hcz7_2, hfz7_0, hfz7_1, hfz7_2⟩ := zq3 BK546) | ((with_reducible refine gate_callee (f := 19) rfl ?_); refine goesL_ (some 8) rfl rfl Try.func19 (by kernel_rfl) rfl #[.agg #[.int .i64 a0_0, .int .i64 a0_1, .slice A0_2 l0_2.length c0_2]] rfl (by (try simp only [List.map_toArray, List.map_cons, List.map_nil]); first | done | rfl | (simp only [List.length_drop, List.length_take]; rfl)) ?_; (with_reducible refine (imageeditorref11_Check.calls k a0_0 a0_1 _ _ l0_2 t548 _ ?side1 ?side2 A2.out).mono ?_); (case side1 => repeat (first | exact (Kd.C_below HR0_2.out HB.out) | (with_reducible refine Kd.C_alloc ?_ _) | (with_reducible refine Kd.C_drewN ?_ _) | (with_reducible refine Kd.C_drew ?_))); (case side2 => exact HC0_2.out); rintro e w8 ⟨rfl, hb⟩; refine ⟨_, rfl, ?_⟩; replace BK546 := zk BK546 hb; replace BK547 := zk BK547 hb; replace HB := zb HB hb; (try clear hb); (try clear hb2); (try clear hk); (try clear hi); obtain ⟨hcz9_0, hcz9_1, hcz9_2, hfz9_0, hfz9_1, hfz9_2⟩ := zq3 BK546) | ((with_reducible refine gate_dst (N := 5) rfl ?_); refine box_event ?hg (N := 5) ?hd (cs := #[.int .i64 0, .int .i64 0, .slice none 0 0]) (t := 29) ?hr ?_; (case hd => rfl); (case hg => rfl); (case hr => first | (go_simp; done) | (go_simp; rfl)); intro gb549 hg w10 hbox hb; have GW549 := zg HB hg; have GE549 := zg HB hg; have NB546_549 := zn BK546 hg; have NB549_546 := zn' BK546 hg; have NB547_549 := zn BK547 hg; have NB549_547 := zn' BK547 hg; have n0_ := Aside0.mk (hbox); replace BK546 := zk BK546 hb; replace BK547 := zk BK547 hb; replace HB := zb HB hb; have BK549 := n0_; clear n0_; clear hb hbox hg; have hnb11 := NB549_546.out; have hnc11 := NB546_549.out; have hnb12 := NB549_547.out; have hnc12 := NB547_549.out; obtain ⟨hcz13_0, hcz13_1, hcz13_2, hfz13_0, hfz13_1, hfz13_2⟩ := zq3 BK549; obtain ⟨hcz14_0, hcz14_1, hcz14_2, hfz14_0, hfz14_1, hfz14_2⟩ := zq3 BK546))
  (try simp only [Act.put, sA, sB, sC])
  go_loopg [21] k (fun kq v21 w' => ∃ (x21_1 : Int) (x550002_1 : List Int) (u550002 : Value), v21 = .int .i64 x21_1 ∧ Aside0 (imageeditorref24_Opaque.l0 kq (l0_2.length : Int) x21_1 a0_0 a0_1 l0_2 a0_0 a0_1 x550002_1 = some (r1, r2, r3, r4)) ∧ Aside0 (kq ≤ k) ∧ Aside0 (Kd.R (Kd.int .i64) 3 w' w.heap.size (fun _ => True) u550002 x550002_1) ∧ Aside0 (w'.heap[gb546]? = some (.cells #[.int .i64 a0_0, .int .i64 a0_1, (.slice A0_2 l0_2.length c0_2)] 24 (0, 0))) ∧ Aside0 (w'.heap[gb547]? = some (.cells #[.int .i64 0, .int .i64 0, (.slice none 0 0)] 29 (0, 0))) ∧ Aside0 (w'.heap[gb549]? = some (.cells #[.int .i64 a0_0, .int .i64 a0_1, u550002] 29 (0, 0))) ∧ Aside0 (Below w.heap.size w w'))
  case atStart => exact ⟨(0), (([] : List Int)), (.slice none 0 0), (by first | rfl | (simp; done) | (simp [*]; done)), H', ⟨Nat.le_refl _⟩, ⟨by first | exact Kd.R_nil _ _ _ _ _ | exact Kd.N_nil _ _ _ _ _ | exact Kd.V_nil _ _ _ _ _ | exact Kd.Q_nil _ _ _ _ _ | exact Kd.S_nil _ _ _ _ _⟩, ⟨by exact zf BK546 NB546_549⟩, ⟨by exact zf BK547 NB547_549⟩, ⟨by exact zp BK549 rfl⟩, ⟨by exact zbo HB GE549⟩⟩
  case round =>
   clear H'
   try clear c1
   try clear p2
   try clear c3
   try clear c3b0
   try clear c3b1
   try clear q3
   try clear c6
   try clear c11
   try clear c12
   try clear hcz13_0
   try clear hcz13_1
   try clear hcz13_2
   try clear hcz14_0
   try clear hcz14_1
   try clear hcz14_2
   try clear hcz7_0
   try clear hcz7_1
   try clear hcz7_2
   try clear hcz9_0
   try clear hcz9_1
   try clear hcz9_2
   try clear hfz13_0
   try clear hfz13_1
   try clear hfz13_2
   try clear hfz14_0
   try clear hfz14_1
   try clear hfz14_2
   try clear hfz7_0
   try clear hfz7_1
   try clear hfz7_2
   try clear hfz9_0
   try clear hfz9_1
   try clear hfz9_2
   obtain ⟨x21_1, x550002_1, u550002, rfl, HA, HK1, HO_550002, BK546, BK547, BK549, HB⟩ := hrel
   cases gk with
   | zero => exact absurd HA.out (by simp [imageeditorref24_Opaque.l0])
   | succ k1 =>
    have H := HA.out
    clear HA
    simp only [imageeditorref24_Opaque.l0] at H
    by_cases c15 : x21_1 < (l0_2.length : Int)
    ·rw [if_pos c15] at H
     have c15b0 : decide (x21_1 < (l0_2.length : Int)) = true := decide_eq_true c15
     clear c15
     by_cases c16 : 0 ≤ x21_1
     ·rw [if_pos c16] at H
      have c16b0 : decide (0 ≤ x21_1) = true := decide_eq_true c16
      clear c16
      by_cases c17 : x21_1 < (l0_2.length : Int)
      ·rw [if_pos c17] at H
       have c17b0 : decide (x21_1 < (l0_2.length : Int)) = true := decide_eq_true c17
       clear c17
       by_cases c18 : x550002_1.length < 17592186044416
       ·rw [if_pos c18] at H
        have LMc18 := Aside0.mk c18
        clear c18
        obtain ⟨y551, hy551⟩ : ∃ y_ : List Int, y_ = (x550002_1 ++ [(rd_T37 l0_2 x21_1).f3]) := ⟨_, rfl⟩
        replace H : (imageeditorref24_Opaque.l0 k1 (l0_2.length : Int) (wrap64 (x21_1 + 1)) a0_0 a0_1 l0_2 a0_0 a0_1 y551) = some (r1, r2, r3, r4) := by first | (rw [hy551]; with_reducible exact H) | (have H2_ := (Option.bind_some _ _).symm.trans H; rw [hy551]; with_reducible exact H2_) | (have H2_ := (Option.bind_some _ _).symm.trans H; with_reducible exact H2_) | with_reducible exact H | (rw [hy551]; exact H) | exact H
        have Ny551 := Aside0.mk hy551
        clear hy551
        have H' := Aside0.mk H
        clear H
        try go_wp2
        replace HO_550002 := zrd HO_550002
        replace BK546 := zkd BK546
        replace BK547 := zkd BK547
        replace BK549 := zkd BK549
        replace HB := zbd HB
        have p550 : 0 ≤ (x21_1 : Int) := of_decide_eq_true (by first | (with_reducible assumption) | assumption)
        have q550 : x21_1 < (l0_2.length : Int) := of_decide_eq_true (by first | (with_reducible assumption) | assumption)
        obtain ⟨ad550, e550, hx550_0, hx550_1, hx550_2, hx550_3⟩ := at_T37 HR0_2.out x21_1 p550 q550
        have hw550_3 := hx550_3
        have hw550_2 := hx550_2
        have hw550_1 := hx550_1
        have hw550_0 := hx550_0
        cases e550
        replace hx550_0 := (HB.out.cell (World.block_lt_of_cell? w _ hx550_0)).trans hx550_0
        replace hx550_1 := (HB.out.cell (World.block_lt_of_cell? w _ hx550_1)).trans hx550_1
        replace hx550_2 := (HB.out.cell (World.block_lt_of_cell? w _ hx550_2)).trans hx550_2
        replace hx550_3 := (HB.out.cell (World.block_lt_of_cell? w _ hx550_3)).trans hx550_3
        replace p550 := eq_true p550
        replace q550 := eq_true q550
        refine start_ (n := 12) (S := fun w' => w'.cell? ⟨gb549, 0, none⟩ = some (.int .i64 a0_0) ∧ w'.cell? ⟨gb549, 1, none⟩ = some (.int .i64 a0_1) ∧ w'.cell? ⟨gb549, 2, none⟩ = some (u550002) ∧ w'.cell? ⟨gb546, 0, none⟩ = some (.int .i64 a0_0) ∧ w'.cell? ⟨gb546, 1, none⟩ = some (.int .i64 a0_1) ∧ w'.cell? ⟨gb546, 2, none⟩ = some (.slice (some ad550) l0_2.length c0_2) ∧ w'.cell? (ad550.add ((x21_1).toNat * 4)) = some (.int .i64 ((rd_T37 l0_2 x21_1).f0)) ∧ w'.cell? ⟨(ad550.add ((x21_1).toNat * 4)).block, (ad550.add ((x21_1).toNat * 4)).off + 1, none⟩ = some (.int .i64 ((rd_T37 l0_2 x21_1).f1)) ∧ w'.cell? ⟨(ad550.add ((x21_1).toNat * 4)).block, (ad550.add ((x21_1).toNat * 4)).off + 2, none⟩ = some (.int .i64 ((rd_T37 l0_2 x21_1).f2)) ∧ w'.cell? ⟨(ad550.add ((x21_1).toNat * 4)).block, (ad550.add ((x21_1).toNat * 4)).off + 3, none⟩ = some (.int .i64 ((rd_T37 l0_2 x21_1).f3))) (ds := [11]) (bs 12 0) (by kernel_rfl) rfl rfl ⟨(blk_cell BK549.out 0).trans rfl, (blk_cell BK549.out 1).trans rfl, (blk_cell BK549.out 2).trans rfl, (blk_cell BK546.out 0).trans rfl, (blk_cell BK546.out 1).trans rfl, (blk_cell BK546.out 2).trans rfl, ((HB.out.cell (World.block_lt_of_cell? w _ hw550_0)).trans hw550_0), ((HB.out.cell (World.block_lt_of_cell? w _ hw550_1)).trans hw550_1), ((HB.out.cell (World.block_lt_of_cell? w _ hw550_2)).trans hw550_2), ((HB.out.cell (World.block_lt_of_cell? w _ hw550_3)).trans hw550_3)⟩ (fun hHeld => ?_); refine with_tabW imageeditorref24_Opaque.tab8 imageeditorref24_Opaque.bits8 (fun HT_ HW_ => ?_)
        generalize wr.drew = w19 at HO_550002 BK546 BK547 BK549 HB hx550_0 hx550_1 hx550_2 hx550_3 hHeld ⊢
        refine pure_ (i := 0) (N := some 24) (v := ?_) (a' := ?_) (bs 12 1) rfl rfl (any_of HT_.out (by kernel_rfl)) (fun _ _ _ h => h) (Or.inl ⟨by rfl, ?_⟩) ?_ ?_
        rotate_left
        ·intro w'
         go_simp
         with_reducible rfl
        rotate_left
        ·simp only [Act.put, sA, sB, sC, i64_w, i32_w]
         rfl
        refine pure_ (i := 2) (N := some 26) (v := ?_) (a' := ?_) (bs 12 5) rfl rfl (any_of HT_.out (by kernel_rfl)) (fun _ _ _ h => h) (Or.inl ⟨by rfl, ?_⟩) ?_ ?_
        rotate_left
        ·intro w'
         go_simp
         with_reducible rfl
        rotate_left
        ·simp only [Act.put, sA, sB, sC, i64_w, i32_w]
         rfl
        refine pure_ (i := 4) (N := some 28) (v := ?_) (a' := ?_) (bs 12 21) rfl rfl (any_of HT_.out (by kernel_rfl)) (fun _ _ _ h => h) (Or.inl ⟨by rfl, ?_⟩) ?_ ?_
        rotate_left
        ·intro w'
         go_simp
         with_reducible rfl
        rotate_left
        ·simp only [Act.put, sA, sB, sC, i64_w, i32_w]
         rfl
        refine take_ (i := 1) (N := some 25) (v := ?_) (a' := ?_) (bs 12 23) rfl rfl (take_ofW HT_.out HW_.out (by kernel_rfl)) (fun _ _ _ h => h) (Or.inl ⟨by rfl, ?_⟩) hHeld ?_ ?_
        rotate_left
        ·rintro w' ⟨s0, s1, s2, s3, s4, s5, s6, s7, s8, s9⟩
         go_simp
         with_reducible rfl
        rotate_left
        ·simp only [Act.put, sA, sB, sC, i64_w, i32_w]
         rfl
        refine take_ (i := 3) (N := some 27) (v := ?_) (a' := ?_) (bs 12 31) rfl rfl (take_ofW HT_.out HW_.out (by kernel_rfl)) (fun _ _ _ h => h) (Or.inl ⟨by rfl, ?_⟩) hHeld ?_ ?_
        rotate_left
        ·rintro w' ⟨s0, s1, s2, s3, s4, s5, s6, s7, s8, s9⟩
         go_simp
         with_reducible rfl
        rotate_left
        ·simp only [Act.put, sA, sB, sC, i64_w, i32_w]
         rfl
        refine pure_ (i := 5) (N := some 29) (v := ?_) (a' := ?_) (bs 12 63) rfl rfl (any_of HT_.out (by kernel_rfl)) (fun _ _ _ h => h) (Or.inl ⟨by rfl, ?_⟩) ?_ ?_
        rotate_left
        ·intro w'
         go_simp
         with_reducible rfl
        rotate_left
        ·simp only [Act.put, sA, sB, sC, i64_w, i32_w]
         rfl
        refine pure_ (i := 6) (N := some 30) (v := ?_) (a' := ?_) (bs 12 127) rfl rfl (any_of HT_.out (by kernel_rfl)) (fun _ _ _ h => h) (Or.inl ⟨by rfl, ?_⟩) ?_ ?_
        rotate_left
        ·intro w'
         go_simp
         with_reducible rfl
        rotate_left
        ·simp only [Act.put, sA, sB, sC, i64_w, i32_w]
         rfl
        refine take_ (i := 7) (N := some 31) (v := ?_) (a' := ?_) (bs 12 255) rfl rfl (take_ofW HT_.out HW_.out (by kernel_rfl)) (fun _ _ _ h => h) (Or.inl ⟨by rfl, ?_⟩) hHeld ?_ ?_
        rotate_left
        ·rintro w' ⟨s0, s1, s2, s3, s4, s5, s6, s7, s8, s9⟩
         go_simp
         with_reducible rfl
        rotate_left
        ·simp only [Act.put, sA, sB, sC, i64_w, i32_w]
         rfl
        refine one_ (i := 8) (N := some 32) (bs 12 511) rfl rfl (one_of HT_.out (by kernel_rfl)) (by decide) (fun K hK => ?_)
        refine value_ (w1 := ?_) (v := ?_) (by rfl) rfl ?_ ?_
        rotate_left 2
        ·go_simp
         constructor
         ·rfl
         ·rfl
        refine hK.out _ _ ⟨(blk_cell (blk_alloc BK549.out _) 0).trans rfl, (blk_cell (blk_alloc BK549.out _) 1).trans rfl, (blk_cell (blk_alloc BK549.out _) 2).trans rfl, (blk_cell (blk_alloc BK546.out _) 0).trans rfl, (blk_cell (blk_alloc BK546.out _) 1).trans rfl, (blk_cell (blk_alloc BK546.out _) 2).trans rfl, (World.cell?_alloc_lt _ _ _ (World.block_lt_of_cell? _ _ (((HB.out.cell (World.block_lt_of_cell? w _ hw550_0)).trans hw550_0)))).trans (((HB.out.cell (World.block_lt_of_cell? w _ hw550_0)).trans hw550_0)), (World.cell?_alloc_lt _ _ _ (World.block_lt_of_cell? _ _ (((HB.out.cell (World.block_lt_of_cell? w _ hw550_1)).trans hw550_1)))).trans (((HB.out.cell (World.block_lt_of_cell? w _ hw550_1)).trans hw550_1)), (World.cell?_alloc_lt _ _ _ (World.block_lt_of_cell? _ _ (((HB.out.cell (World.block_lt_of_cell? w _ hw550_2)).trans hw550_2)))).trans (((HB.out.cell (World.block_lt_of_cell? w _ hw550_2)).trans hw550_2)), (World.cell?_alloc_lt _ _ _ (World.block_lt_of_cell? _ _ (((HB.out.cell (World.block_lt_of_cell? w _ hw550_3)).trans hw550_3)))).trans (((HB.out.cell (World.block_lt_of_cell? w _ hw550_3)).trans hw550_3))⟩ (fun hHeld => ?_)
        clear hK K
        refine norm_ (a' := ?_) ?_ ?_
        rotate_left
        ·show Act.put _ (some 32) _ = _
         simp only [Act.put, sA, sB, sC, i64_w, i32_w]
         rfl
        refine one_ (i := 9) (N := some 33) (bs 12 1023) rfl rfl (one_of HT_.out (by kernel_rfl)) (by decide) (fun K hK => ?_)
        refine Kd.R_append_step (Kd.int .i64) (w0 := w) w.heap.size (by rfl) (.tmp 25) (.tmp 32) 27 3 (.int .i64 0) 8 rfl Try.underlying27 info3 rfl (by decide) (by omega) u550002 x550002_1 ((rd_T37 l0_2 x21_1).f3) [.int .i64 ((rd_T37 l0_2 x21_1).f3)] (fun _ => True) (fun _ => False) rfl rfl ?aP (fun _ hk => hk.elim) ?aF ?aO ?aB ?aS ?aL ?_
        (case aP => exact rfl)
        (case aB => exact (by exact zb0 HB))
        (case aF => exact (fun _ _ => trivial))
        (case aO => exact (by exact zr0 HO_550002))
        (case aS => exact (below_size (by exact zb0 HB)))
        (case aL => have := LMc18.out; omega)
        intro v552 w20 ho hb hg hat
        rw [← Ny551.out] at ho
        have n0_ := Aside0.mk (blk_grown (zk0 BK546) hg (Kd.R_ne HO_550002.out BK546.out (by decide)))
        have n1_ := Aside0.mk (blk_grown (zk0 BK547) hg (Kd.R_ne HO_550002.out BK547.out (by decide)))
        have n2_ := Aside0.mk (blk_grown (zk0 BK549) hg (Kd.R_ne HO_550002.out BK549.out (by decide)))
        have n3_ := Aside0.mk (hb)
        have n4_ := Aside0.mk (ho)
        clear BK546
        clear BK547
        clear BK549
        clear HB
        clear HO_550002
        have BK546 := n0_
        have BK547 := n1_
        have BK549 := n2_
        have HB := n3_
        have HO553 := n4_
        clear n0_ n1_ n2_ n3_ n4_
        clear ho hb hg hat
        obtain ⟨Ao21, co21, eo21⟩ := Kd.R_slice HO553.out
        (first | subst eo21 | (injection eo21 with f1_ f2_ f3_; have f4_ := f1_.symm; have f5_ := f3_.symm; clear f1_ f2_ f3_; subst f4_; subst f5_))
        refine hK.out _ _ ⟨(blk_cell BK549.out 0).trans rfl, (blk_cell BK549.out 1).trans rfl, (blk_cell BK549.out 2).trans rfl, (blk_cell BK546.out 0).trans rfl, (blk_cell BK546.out 1).trans rfl, (blk_cell BK546.out 2).trans rfl, ((HB.out.cell (World.block_lt_of_cell? w _ hw550_0)).trans hw550_0), ((HB.out.cell (World.block_lt_of_cell? w _ hw550_1)).trans hw550_1), ((HB.out.cell (World.block_lt_of_cell? w _ hw550_2)).trans hw550_2), ((HB.out.cell (World.block_lt_of_cell? w _ hw550_3)).trans hw550_3)⟩ (fun hHeld => ?_)
        clear hK K
        refine norm_ (a' := ?_) ?_ ?_
        rotate_left
        ·show Act.put _ (some 33) _ = _
         simp only [Act.put, sA, sB, sC, i64_w, i32_w]
         rfl
        refine pure_ (i := 10) (N := some 34) (v := ?_) (a' := ?_) (bs 12 2047) rfl rfl (any_of HT_.out (by kernel_rfl)) (fun _ _ _ h => h) (Or.inl ⟨by rfl, ?_⟩) ?_ ?_
        rotate_left
        ·intro w'
         go_simp
         with_reducible rfl
        rotate_left
        ·simp only [Act.put, sA, sB, sC, i64_w, i32_w]
         rfl
        refine last_ (i := 11) (N := none) (bs 12 4095) rfl rfl (one_of HT_.out (by kernel_rfl)) (by decide) (fun K hK => ?_)
        have hs22 : w20.cell? ⟨gb549, 2, none⟩ = some (u550002) := (blk_cell BK549.out 2).trans rfl
        have hfs22 := blk_frozen BK549.out 2
        have hns22_0 := NB546_549.out
        have hns22_1 := NB547_549.out
        have hms22_0 := NB549_546.out
        have hms22_1 := NB549_547.out
        refine skip_ (w1 := ?_) (by rfl) rfl ?_ ?_
        rotate_left
        ·go_simp
         rfl
        refine hK.out _ _ ?_
        clear hK K
        refine done_ (done_of HT_.out (by kernel_rfl)) ?_
        try go_wp2
        go_roundg k1
        case measure => have := HK1.out; omega
        case rel => exact ⟨(wrap64 (x21_1 + 1)), (y551), (.slice Ao21 y551.length co21), (by first | rfl | (simp; done) | (simp [*]; done)), H', ⟨by have := HK1.out; omega⟩, ⟨by exact zro HO553 BK549 (by decide)⟩, ⟨by exact zf BK546 NB546_549⟩, ⟨by exact zf BK547 NB547_549⟩, ⟨by exact zp BK549 rfl⟩, ⟨by exact zbo HB GE549⟩⟩
       ·rw [if_neg c18] at H
        exact absurd H (by simp)
      ·rw [if_neg c17] at H
       exact absurd H (by simp)
     ·rw [if_neg c16] at H
      exact absurd H (by simp)
    ·rw [if_neg c15] at H
     have c15b0 : decide (x21_1 < (l0_2.length : Int)) = false := decide_eq_false c15
     clear c15
     simp only [Option.some.injEq, Prod.mk.injEq] at H
     obtain ⟨rfl, rfl, rfl, rfl⟩ := H
     have hnb23 := NB549_546.out
     have hnc23 := NB546_549.out
     have hnb24 := NB549_547.out
     have hnc24 := NB547_549.out
     obtain ⟨hcz25_0, hcz25_1, hcz25_2, hfz25_0, hfz25_1, hfz25_2⟩ := zq3 BK549
     have hnb26 := NB547_546.out
     have hnc26 := NB546_547.out
     obtain ⟨hcz27_0, hcz27_1, hcz27_2, hfz27_0, hfz27_1, hfz27_2⟩ := zq3 BK547
     obtain ⟨Ao28, co28, eo28⟩ := Kd.R_slice HO_550002.out
     subst eo28
     go_wp2
     refine bodyPost_ret (results_ct rfl _ _ gb547 29 #[.int .i64 a0_0, .int .i64 a0_1, .slice Ao28 x550002_1.length co28] (0, 0) _ rfl (by exact zp BK547 rfl) Try.underlying29 rfl (by kernel_rfl)) rfl ?_
     exact ⟨_, by first | rfl | (simp [errW_none, errW_some] <;> rfl) | (simp [*, errW_none, errW_some] <;> rfl), by exact zro HO_550002 BK547 (by decide), by exact zbo HB GE547⟩
 ·rw [if_neg c3] at H
  have c3b0 : (t548 == 0) = false := beq_eq_false_iff_ne.mpr c3
  have c3b1 : (t548 != 0) = true := bne_iff_ne.mpr c3
  simp only [Option.some.injEq, Prod.mk.injEq] at H
  obtain ⟨rfl, rfl, rfl, rfl⟩ := H
  go_enter Try.func18, Try.ntmps18
  go_wp2_with (first | ((with_reducible refine gate_dst (N := 1) rfl ?_); refine box_event ?hg (N := 1) ?hd (cs := #[.int .i64 a0_0, .int .i64 a0_1, .slice A0_2 l0_2.length c0_2]) (t := 24) ?hr ?_; (case hd => rfl); (case hg => rfl); (case hr => first | (go_simp; done) | (go_simp; rfl)); intro gb546 hg w29 hbox hb; have GW546 := zg HB hg; have GE546 := zg HB hg; have n0_ := Aside0.mk (hbox); replace HB := zb HB hb; have BK546 := n0_; clear n0_; clear hb hbox hg) | ((with_reducible refine gate_dst (N := 2) rfl ?_); refine box_event ?hg (N := 2) ?hd (cs := #[.int .i64 0, .int .i64 0, .slice none 0 0]) (t := 29) ?hr ?_; (case hd => rfl); (case hg => rfl); (case hr => first | (go_simp; done) | (go_simp; rfl)); intro gb547 hg w30 hbox hb; have GW547 := zg HB hg; have GE547 := zg HB hg; have NB546_547 := zn BK546 hg; have NB547_546 := zn' BK546 hg; have n0_ := Aside0.mk (hbox); replace BK546 := zk BK546 hb; replace HB := zb HB hb; have BK547 := n0_; clear n0_; clear hb hbox hg; have hnb31 := NB546_547.out; have hnc31 := NB547_546.out; obtain ⟨hcz32_0, hcz32_1, hcz32_2, hfz32_0, hfz32_1, hfz32_2⟩ := zq3 BK546) | ((with_reducible refine gate_callee (f := 19) rfl ?_); refine goesL_ (some 8) rfl rfl Try.func19 (by kernel_rfl) rfl #[.agg #[.int .i64 a0_0, .int .i64 a0_1, .slice A0_2 l0_2.length c0_2]] rfl (by (try simp only [List.map_toArray, List.map_cons, List.map_nil]); first | done | rfl | (simp only [List.length_drop, List.length_take]; rfl)) ?_; (with_reducible refine (imageeditorref11_Check.calls k a0_0 a0_1 _ _ l0_2 t548 _ ?side1 ?side2 A2.out).mono ?_); (case side1 => repeat (first | exact (Kd.C_below HR0_2.out HB.out) | (with_reducible refine Kd.C_alloc ?_ _) | (with_reducible refine Kd.C_drewN ?_ _) | (with_reducible refine Kd.C_drew ?_))); (case side2 => exact HC0_2.out); rintro e w33 ⟨rfl, hb⟩; refine ⟨_, rfl, ?_⟩; replace BK546 := zk BK546 hb; replace BK547 := zk BK547 hb; replace HB := zb HB hb; (try clear hb); (try clear hb2); (try clear hk); (try clear hi); obtain ⟨hcz34_0, hcz34_1, hcz34_2, hfz34_0, hfz34_1, hfz34_2⟩ := zq3 BK547))
  refine bodyPost_ret (results_ct rfl _ _ gb547 29 #[.int .i64 0, .int .i64 0, .slice none 0 0] (0, 0) _ rfl (by exact zp BK547 rfl) Try.underlying29 rfl (by kernel_rfl)) rfl ?_
  exact ⟨_, by first | rfl | (simp [errW_none, errW_some] <;> rfl) | (simp [*, errW_none, errW_some] <;> rfl), by first | exact Kd.R_nil _ _ _ _ _ | exact Kd.N_nil _ _ _ _ _ | exact Kd.V_nil _ _ _ _ _ | exact Kd.Q_nil _ _ _ _ _ | exact Kd.S_nil _ _ _ _ _, by exact zbo HB GE547⟩

/-! ### imageeditorlaw24_WandColors: function 4 -/
def imageeditorlaw24_WandColors.f (k : Nat) (a0_0 : Int) (a0_1 : Int) (l0_2 : List (S37)) (a1_0 : Int) (a1_1 : Int) (a1_2 : Int) (a1_3 : Int) (a2 : Int) (a3 : Int) : Option (Bool) := (wand_Similar.f k a0_0 a0_1 l0_2 a1_0 a1_1 a1_2 a1_3 a2).bind fun bt556 => ((imageeditorref24_Similar.f k a0_0 a0_1 l0_2 a1_0 a1_1 a1_2 a1_3 a2).bind fun bt563 => ((wand_Soft.f k a0_0 a0_1 l0_2 a1_0 a1_1 a1_2 a1_3 a2 a3).bind fun bt570 => ((imageeditorref24_Soft.f k a0_0 a0_1 l0_2 a1_0 a1_1 a1_2 a1_3 a2 a3).bind fun bt577 => ((wand_Opaque.f k a0_0 a0_1 l0_2).bind fun bt584 => ((imageeditorref24_Opaque.f k a0_0 a0_1 l0_2).bind fun bt591 => ((imageeditorlaw24_same.f k bt556.1 bt556.2.1 bt556.2.2.1 bt563.1 bt563.2.1 bt563.2.2.1).bind fun t598 => (if t598 = true then (if bt556.2.2.2 = bt563.2.2.2 then ((imageeditorlaw24_same.f k bt570.1 bt570.2.1 bt570.2.2.1 bt577.1 bt577.2.1 bt577.2.2.1).bind fun t599 => (if t599 = true then (if bt570.2.2.2 = bt577.2.2.2 then ((imageeditorlaw24_same.f k bt584.1 bt584.2.1 bt584.2.2.1 bt591.1 bt591.2.1 bt591.2.2.1).bind fun t600 => (if t600 = true then (if bt584.2.2.2 = bt591.2.2.2 then ((imageeditorlaw24_awake.f k).bind fun t601 => (some t601)) else (some false)) else (some false))) else (some false)) else (some false))) else (some false)) else (some false))))))))
theorem imageeditorlaw24_WandColors.mono : ∀ a0 a1 a2 a3 a4 a5 a6 a7 a8 k, LeO (imageeditorlaw24_WandColors.f k a0 a1 a2 a3 a4 a5 a6 a7 a8) (imageeditorlaw24_WandColors.f (k + 1) a0 a1 a2 a3 a4 a5 a6 a7 a8) := by
 intro a0 a1 a2 a3 a4 a5 a6 a7 a8 k
 unfold imageeditorlaw24_WandColors.f
 repeat' first
   | (with_reducible exact imageeditorlaw24_awake.mono _)
   | (with_reducible exact imageeditorlaw24_same.mono _ _ _ _ _ _ _)
   | (with_reducible exact imageeditorref24_Opaque.mono _ _ _ _)
   | (with_reducible exact imageeditorref24_Similar.mono _ _ _ _ _ _ _ _ _)
   | (with_reducible exact imageeditorref24_Soft.mono _ _ _ _ _ _ _ _ _ _)
   | (with_reducible exact wand_Opaque.mono _ _ _ _)
   | (with_reducible exact wand_Similar.mono _ _ _ _ _ _ _ _ _)
   | (with_reducible exact wand_Soft.mono _ _ _ _ _ _ _ _ _ _)
   | (with_reducible exact LeO.refl _)
   | (with_reducible exact LeO.none _)
   | (with_reducible refine LeO.ite ?_ ?_)
   | (with_reducible refine LeO.bind ?_ (fun _ => ?_))
   | exact imageeditorlaw24_awake.mono _
   | exact imageeditorlaw24_same.mono _ _ _ _ _ _ _
   | exact imageeditorref24_Opaque.mono _ _ _ _
   | exact imageeditorref24_Similar.mono _ _ _ _ _ _ _ _ _
   | exact imageeditorref24_Soft.mono _ _ _ _ _ _ _ _ _ _
   | exact wand_Opaque.mono _ _ _ _
   | exact wand_Similar.mono _ _ _ _ _ _ _ _ _
   | exact wand_Soft.mono _ _ _ _ _ _ _ _ _ _
   | exact LeO.none _
   | refine LeO.ite ?_ ?_
   | refine LeO.bind ?_ (fun _ => ?_)
set_option maxHeartbeats 8000000 in
set_option maxRecDepth 100000 in
theorem imageeditorlaw24_WandColors.callsT (k : Nat) (a0_0 : Int) (a0_1 : Int) (A0_2 : Option Addr) (c0_2 : Nat) (l0_2 : List (S37)) (a1_0 : Int) (a1_1 : Int) (a1_2 : Int) (a1_3 : Int) (a2 : Int) (a3 : Int) (r : Bool) (w : World) (hr0_2 : Kd.C k37 w A0_2 l0_2.length l0_2) (hc0_2 : l0_2.length ≤ c0_2) (hT : r = true) (h : imageeditorlaw24_WandColors.f k a0_0 a0_1 l0_2 a1_0 a1_1 a1_2 a1_3 a2 a3 = some r) :
  Calls Try.prog 4 #[.agg #[.int .i64 a0_0, .int .i64 a0_1, .slice A0_2 l0_2.length c0_2], .agg #[.int .i64 a1_0, .int .i64 a1_1, .int .i64 a1_2, .int .i64 a1_3], .int .i64 a2, .int .i64 a3] w fun e w' => e = .returned (.bool r) ∧ Below w.heap.size w w' := by
 have hu24 := Try.underlying24
 have hu37 := Try.underlying37
 have hu29 := Try.underlying29
 have HT := Aside0.mk hT
 clear hT
 have HR0_2 := Aside0.mk hr0_2
 have HC0_2 := Aside0.mk hc0_2
 clear hr0_2 hc0_2
 have HB := Aside0.mk (Below.refl w.heap.size w)
 have H : ((wand_Similar.f k a0_0 a0_1 l0_2 a1_0 a1_1 a1_2 a1_3 a2).bind fun bt556 => ((imageeditorref24_Similar.f k a0_0 a0_1 l0_2 a1_0 a1_1 a1_2 a1_3 a2).bind fun bt563 => ((wand_Soft.f k a0_0 a0_1 l0_2 a1_0 a1_1 a1_2 a1_3 a2 a3).bind fun bt570 => ((imageeditorref24_Soft.f k a0_0 a0_1 l0_2 a1_0 a1_1 a1_2 a1_3 a2 a3).bind fun bt577 => ((wand_Opaque.f k a0_0 a0_1 l0_2).bind fun bt584 => ((imageeditorref24_Opaque.f k a0_0 a0_1 l0_2).bind fun bt591 => ((imageeditorlaw24_same.f k bt556.1 bt556.2.1 bt556.2.2.1 bt563.1 bt563.2.1 bt563.2.2.1).bind fun t598 => (if t598 = true then (if bt556.2.2.2 = bt563.2.2.2 then ((imageeditorlaw24_same.f k bt570.1 bt570.2.1 bt570.2.2.1 bt577.1 bt577.2.1 bt577.2.2.1).bind fun t599 => (if t599 = true then (if bt570.2.2.2 = bt577.2.2.2 then ((imageeditorlaw24_same.f k bt584.1 bt584.2.1 bt584.2.2.1 bt591.1 bt591.2.1 bt591.2.2.1).bind fun t600 => (if t600 = true then (if bt584.2.2.2 = bt591.2.2.2 then ((imageeditorlaw24_awake.f k).bind fun t601 => (some t601)) else (some false)) else (some false))) else (some false)) else (some false))) else (some false)) else (some false))))))))) = some r := h
 clear h
 replace H := Option.bind_eq_some_iff.mp H
 obtain ⟨⟨t556, t557, t558, t561⟩, A50, H⟩ := H
 replace H : ((imageeditorref24_Similar.f k a0_0 a0_1 l0_2 a1_0 a1_1 a1_2 a1_3 a2).bind fun bt563 => ((wand_Soft.f k a0_0 a0_1 l0_2 a1_0 a1_1 a1_2 a1_3 a2 a3).bind fun bt570 => ((imageeditorref24_Soft.f k a0_0 a0_1 l0_2 a1_0 a1_1 a1_2 a1_3 a2 a3).bind fun bt577 => ((wand_Opaque.f k a0_0 a0_1 l0_2).bind fun bt584 => ((imageeditorref24_Opaque.f k a0_0 a0_1 l0_2).bind fun bt591 => ((imageeditorlaw24_same.f k t556 t557 t558 bt563.1 bt563.2.1 bt563.2.2.1).bind fun t598 => (if t598 = true then (if t561 = bt563.2.2.2 then ((imageeditorlaw24_same.f k bt570.1 bt570.2.1 bt570.2.2.1 bt577.1 bt577.2.1 bt577.2.2.1).bind fun t599 => (if t599 = true then (if bt570.2.2.2 = bt577.2.2.2 then ((imageeditorlaw24_same.f k bt584.1 bt584.2.1 bt584.2.2.1 bt591.1 bt591.2.1 bt591.2.2.1).bind fun t600 => (if t600 = true then (if bt584.2.2.2 = bt591.2.2.2 then ((imageeditorlaw24_awake.f k).bind fun t601 => (some t601)) else (some false)) else (some false))) else (some false)) else (some false))) else (some false)) else (some false)))))))) = some r := H
 have A5 := Aside0.mk A50
 clear A50
 replace H := Option.bind_eq_some_iff.mp H
 obtain ⟨⟨t563, t564, t565, t568⟩, A60, H⟩ := H
 replace H : ((wand_Soft.f k a0_0 a0_1 l0_2 a1_0 a1_1 a1_2 a1_3 a2 a3).bind fun bt570 => ((imageeditorref24_Soft.f k a0_0 a0_1 l0_2 a1_0 a1_1 a1_2 a1_3 a2 a3).bind fun bt577 => ((wand_Opaque.f k a0_0 a0_1 l0_2).bind fun bt584 => ((imageeditorref24_Opaque.f k a0_0 a0_1 l0_2).bind fun bt591 => ((imageeditorlaw24_same.f k t556 t557 t558 t563 t564 t565).bind fun t598 => (if t598 = true then (if t561 = t568 then ((imageeditorlaw24_same.f k bt570.1 bt570.2.1 bt570.2.2.1 bt577.1 bt577.2.1 bt577.2.2.1).bind fun t599 => (if t599 = true then (if bt570.2.2.2 = bt577.2.2.2 then ((imageeditorlaw24_same.f k bt584.1 bt584.2.1 bt584.2.2.1 bt591.1 bt591.2.1 bt591.2.2.1).bind fun t600 => (if t600 = true then (if bt584.2.2.2 = bt591.2.2.2 then ((imageeditorlaw24_awake.f k).bind fun t601 => (some t601)) else (some false)) else (some false))) else (some false)) else (some false))) else (some false)) else (some false))))))) = some r := H
 have A6 := Aside0.mk A60
 clear A60
 replace H := Option.bind_eq_some_iff.mp H
 obtain ⟨⟨t570, t571, t572, t575⟩, A70, H⟩ := H
 replace H : ((imageeditorref24_Soft.f k a0_0 a0_1 l0_2 a1_0 a1_1 a1_2 a1_3 a2 a3).bind fun bt577 => ((wand_Opaque.f k a0_0 a0_1 l0_2).bind fun bt584 => ((imageeditorref24_Opaque.f k a0_0 a0_1 l0_2).bind fun bt591 => ((imageeditorlaw24_same.f k t556 t557 t558 t563 t564 t565).bind fun t598 => (if t598 = true then (if t561 = t568 then ((imageeditorlaw24_same.f k t570 t571 t572 bt577.1 bt577.2.1 bt577.2.2.1).bind fun t599 => (if t599 = true then (if t575 = bt577.2.2.2 then ((imageeditorlaw24_same.f k bt584.1 bt584.2.1 bt584.2.2.1 bt591.1 bt591.2.1 bt591.2.2.1).bind fun t600 => (if t600 = true then (if bt584.2.2.2 = bt591.2.2.2 then ((imageeditorlaw24_awake.f k).bind fun t601 => (some t601)) else (some false)) else (some false))) else (some false)) else (some false))) else (some false)) else (some false)))))) = some r := H
 have A7 := Aside0.mk A70
 clear A70
 replace H := Option.bind_eq_some_iff.mp H
 obtain ⟨⟨t577, t578, t579, t582⟩, A80, H⟩ := H
 replace H : ((wand_Opaque.f k a0_0 a0_1 l0_2).bind fun bt584 => ((imageeditorref24_Opaque.f k a0_0 a0_1 l0_2).bind fun bt591 => ((imageeditorlaw24_same.f k t556 t557 t558 t563 t564 t565).bind fun t598 => (if t598 = true then (if t561 = t568 then ((imageeditorlaw24_same.f k t570 t571 t572 t577 t578 t579).bind fun t599 => (if t599 = true then (if t575 = t582 then ((imageeditorlaw24_same.f k bt584.1 bt584.2.1 bt584.2.2.1 bt591.1 bt591.2.1 bt591.2.2.1).bind fun t600 => (if t600 = true then (if bt584.2.2.2 = bt591.2.2.2 then ((imageeditorlaw24_awake.f k).bind fun t601 => (some t601)) else (some false)) else (some false))) else (some false)) else (some false))) else (some false)) else (some false))))) = some r := H
 have A8 := Aside0.mk A80
 clear A80
 replace H := Option.bind_eq_some_iff.mp H
 obtain ⟨⟨t584, t585, t586, t589⟩, A90, H⟩ := H
 replace H : ((imageeditorref24_Opaque.f k a0_0 a0_1 l0_2).bind fun bt591 => ((imageeditorlaw24_same.f k t556 t557 t558 t563 t564 t565).bind fun t598 => (if t598 = true then (if t561 = t568 then ((imageeditorlaw24_same.f k t570 t571 t572 t577 t578 t579).bind fun t599 => (if t599 = true then (if t575 = t582 then ((imageeditorlaw24_same.f k t584 t585 t586 bt591.1 bt591.2.1 bt591.2.2.1).bind fun t600 => (if t600 = true then (if t589 = bt591.2.2.2 then ((imageeditorlaw24_awake.f k).bind fun t601 => (some t601)) else (some false)) else (some false))) else (some false)) else (some false))) else (some false)) else (some false)))) = some r := H
 have A9 := Aside0.mk A90
 clear A90
 replace H := Option.bind_eq_some_iff.mp H
 obtain ⟨⟨t591, t592, t593, t596⟩, A100, H⟩ := H
 replace H : ((imageeditorlaw24_same.f k t556 t557 t558 t563 t564 t565).bind fun t598 => (if t598 = true then (if t561 = t568 then ((imageeditorlaw24_same.f k t570 t571 t572 t577 t578 t579).bind fun t599 => (if t599 = true then (if t575 = t582 then ((imageeditorlaw24_same.f k t584 t585 t586 t591 t592 t593).bind fun t600 => (if t600 = true then (if t589 = t596 then ((imageeditorlaw24_awake.f k).bind fun t601 => (some t601)) else (some false)) else (some false))) else (some false)) else (some false))) else (some false)) else (some false))) = some r := H
 have A10 := Aside0.mk A100
 clear A100
 replace H := Option.bind_eq_some_iff.mp H
 obtain ⟨t598, A110, H⟩ := H
 replace H : (if t598 = true then (if t561 = t568 then ((imageeditorlaw24_same.f k t570 t571 t572 t577 t578 t579).bind fun t599 => (if t599 = true then (if t575 = t582 then ((imageeditorlaw24_same.f k t584 t585 t586 t591 t592 t593).bind fun t600 => (if t600 = true then (if t589 = t596 then ((imageeditorlaw24_awake.f k).bind fun t601 => (some t601)) else (some false)) else (some false))) else (some false)) else (some false))) else (some false)) else (some false)) = some r := H
 have A11 := Aside0.mk A110
 clear A110
 by_cases c12 : t598 = true
 ·subst c12
  have H1 : (if t561 = t568 then ((imageeditorlaw24_same.f k t570 t571 t572 t577 t578 t579).bind fun t599 => (if t599 = true then (if t575 = t582 then ((imageeditorlaw24_same.f k t584 t585 t586 t591 t592 t593).bind fun t600 => (if t600 = true then (if t589 = t596 then ((imageeditorlaw24_awake.f k).bind fun t601 => (some t601)) else (some false)) else (some false))) else (some false)) else (some false))) else (some false)) = some r := by rw [if_pos rfl] at H; exact H
  clear H
  have H := H1
  clear H1
  by_cases c13 : t561 = t568
  ·rw [if_pos c13] at H
   have c13b0 : (t561 == t568) = true := beq_iff_eq.mpr c13
   have c13b1 : (t561 != t568) = false := bne_eq_false_iff_eq.mpr c13
   clear c13
   replace H := Option.bind_eq_some_iff.mp H
   obtain ⟨t599, A140, H⟩ := H
   replace H : (if t599 = true then (if t575 = t582 then ((imageeditorlaw24_same.f k t584 t585 t586 t591 t592 t593).bind fun t600 => (if t600 = true then (if t589 = t596 then ((imageeditorlaw24_awake.f k).bind fun t601 => (some t601)) else (some false)) else (some false))) else (some false)) else (some false)) = some r := H
   have A14 := Aside0.mk A140
   clear A140
   by_cases c15 : t599 = true
   ·subst c15
    have H1 : (if t575 = t582 then ((imageeditorlaw24_same.f k t584 t585 t586 t591 t592 t593).bind fun t600 => (if t600 = true then (if t589 = t596 then ((imageeditorlaw24_awake.f k).bind fun t601 => (some t601)) else (some false)) else (some false))) else (some false)) = some r := by rw [if_pos rfl] at H; exact H
    clear H
    have H := H1
    clear H1
    by_cases c16 : t575 = t582
    ·rw [if_pos c16] at H
     have c16b0 : (t575 == t582) = true := beq_iff_eq.mpr c16
     have c16b1 : (t575 != t582) = false := bne_eq_false_iff_eq.mpr c16
     clear c16
     replace H := Option.bind_eq_some_iff.mp H
     obtain ⟨t600, A170, H⟩ := H
     replace H : (if t600 = true then (if t589 = t596 then ((imageeditorlaw24_awake.f k).bind fun t601 => (some t601)) else (some false)) else (some false)) = some r := H
     have A17 := Aside0.mk A170
     clear A170
     by_cases c18 : t600 = true
     ·subst c18
      have H1 : (if t589 = t596 then ((imageeditorlaw24_awake.f k).bind fun t601 => (some t601)) else (some false)) = some r := by rw [if_pos rfl] at H; exact H
      clear H
      have H := H1
      clear H1
      by_cases c19 : t589 = t596
      ·rw [if_pos c19] at H
       have c19b0 : (t589 == t596) = true := beq_iff_eq.mpr c19
       have c19b1 : (t589 != t596) = false := bne_eq_false_iff_eq.mpr c19
       clear c19
       replace H := Option.bind_eq_some_iff.mp H
       obtain ⟨t601, A200, H⟩ := H
       replace H : (some t601) = some r := H
       have A20 := Aside0.mk A200
       clear A200
       as_aux_lemma =>
        obtain rfl := Option.some.inj H
        go_enter Try.func4, Try.ntmps4
        go_wp2_with (first | ((with_reducible refine gate_dst (N := 4) rfl ?_); refine box_event ?hg (N := 4) ?hd (cs := #[.int .i64 a0_0, .int .i64 a0_1, .slice A0_2 l0_2.length c0_2]) (t := 24) ?hr ?_; (case hd => rfl); (case hg => rfl); (case hr => first | (go_simp; done) | (go_simp; rfl)); intro gb554 hg w21 hbox hb; have GW554 := zg HB hg; have GE554 := zg HB hg; have n0_ := Aside0.mk (hbox); replace HB := zb HB hb; have BK554 := n0_; clear n0_; clear hb hbox hg) | ((with_reducible refine gate_dst (N := 5) rfl ?_); refine box_event ?hg (N := 5) ?hd (cs := #[.int .i64 a1_0, .int .i64 a1_1, .int .i64 a1_2, .int .i64 a1_3]) (t := 37) ?hr ?_; (case hd => rfl); (case hg => rfl); (case hr => first | (go_simp; done) | (go_simp; rfl)); intro gb555 hg w22 hbox hb; have GW555 := zg HB hg; have GE555 := zg HB hg; have NB554_555 := zn BK554 hg; have NB555_554 := zn' BK554 hg; have n0_ := Aside0.mk (hbox); replace BK554 := zk BK554 hb; replace HB := zb HB hb; have BK555 := n0_; clear n0_; clear hb hbox hg; have hnb23 := NB554_555.out; have hnc23 := NB555_554.out; obtain ⟨hcz24_0, hcz24_1, hcz24_2, hfz24_0, hfz24_1, hfz24_2⟩ := zq3 BK554; obtain ⟨hcz25_0, hcz25_1, hcz25_2, hcz25_3, hfz25_0, hfz25_1, hfz25_2, hfz25_3⟩ := zq4 BK555) | ((with_reducible refine gate_callee (f := 13) rfl ?_); refine goesL_ (some 25) rfl rfl Try.func13 (by kernel_rfl) rfl #[.agg #[.int .i64 a0_0, .int .i64 a0_1, .slice A0_2 l0_2.length c0_2], .agg #[.int .i64 a1_0, .int .i64 a1_1, .int .i64 a1_2, .int .i64 a1_3], .int .i64 a2] rfl (by (try simp only [List.map_toArray, List.map_cons, List.map_nil]); first | done | rfl | (simp only [List.length_drop, List.length_take]; rfl)) ?_; (with_reducible refine (wand_Similar.calls k a0_0 a0_1 _ _ l0_2 a1_0 a1_1 a1_2 a1_3 a2 t556 t557 t558 t561 _ ?side1 ?side2 A5.out).mono ?_); (case side1 => repeat (first | exact (Kd.C_below HR0_2.out HB.out) | (with_reducible refine Kd.C_alloc ?_ _) | (with_reducible refine Kd.C_drewN ?_ _) | (with_reducible refine Kd.C_drew ?_))); (case side2 => exact HC0_2.out); rintro e w26 ⟨v559, rfl, ho0, hb⟩; refine ⟨_, rfl, ?_⟩; have HO560 := zl HB ho0; replace BK554 := zk BK554 hb; replace BK555 := zk BK555 hb; replace HB := zb HB hb; (try clear hb); (try clear hb2); (try clear hk); (try clear hi); (try clear ho0)) | ((with_reducible refine gate_dst (N := 9) rfl ?_); refine box_event ?hg (N := 9) ?hd (cs := #[.int .i64 0, .int .i64 0, .slice none 0 0]) (t := 29) ?hr ?_; (case hd => rfl); (case hg => rfl); (case hr => first | (go_simp; done) | (go_simp; rfl)); intro gb562 hg w27 hbox hb; have GW562 := zg HB hg; have GE562 := zg HB hg; have NB554_562 := zn BK554 hg; have NB562_554 := zn' BK554 hg; have NB555_562 := zn BK555 hg; have NB562_555 := zn' BK555 hg; have n0_ := Aside0.mk (hbox); replace HO560 := zr HO560 hb; replace BK554 := zk BK554 hb; replace BK555 := zk BK555 hb; replace HB := zb HB hb; have BK562 := n0_; clear n0_; clear hb hbox hg; have hnb28 := NB562_554.out; have hnc28 := NB554_562.out; have hnb29 := NB562_555.out; have hnc29 := NB555_562.out; obtain ⟨hcz30_0, hcz30_1, hcz30_2, hfz30_0, hfz30_1, hfz30_2⟩ := zq3 BK562; obtain ⟨Ao31, co31, eo31⟩ := Kd.R_slice HO560.out; subst eo31; obtain ⟨hcz32_0, hcz32_1, hcz32_2, hfz32_0, hfz32_1, hfz32_2⟩ := zq3 BK554; obtain ⟨hcz33_0, hcz33_1, hcz33_2, hcz33_3, hfz33_0, hfz33_1, hfz33_2, hfz33_3⟩ := zq4 BK555) | ((with_reducible refine gate_callee (f := 14) rfl ?_); refine goesL_ (some 32) rfl rfl Try.func14 (by kernel_rfl) rfl #[.agg #[.int .i64 a0_0, .int .i64 a0_1, .slice A0_2 l0_2.length c0_2], .agg #[.int .i64 a1_0, .int .i64 a1_1, .int .i64 a1_2, .int .i64 a1_3], .int .i64 a2] rfl (by (try simp only [List.map_toArray, List.map_cons, List.map_nil]); first | done | rfl | (simp only [List.length_drop, List.length_take]; rfl)) ?_; (with_reducible refine (imageeditorref24_Similar.calls k a0_0 a0_1 _ _ l0_2 a1_0 a1_1 a1_2 a1_3 a2 t563 t564 t565 t568 _ ?side1 ?side2 A6.out).mono ?_); (case side1 => exact Kd.C_below HR0_2.out (by exact zbo HB GE562)); (case side2 => exact HC0_2.out); rintro e w34 ⟨v566, rfl, ho0, hb⟩; refine ⟨_, rfl, ?_⟩; have n0_ := Aside0.mk (Kd.R_below (by exact zro HO560 BK562 (by decide)) hb); have n1_ := Aside0.mk (Kd.R_lower ho0 (below_size (by exact zbo HB GE562))); have n2_ := Aside0.mk (blk_below (g := gb562) (o := .cells #[.int .i64 t556, .int .i64 t557, .slice Ao31 t558.length co31] 29 (0, 0)) (by exact zp BK562 rfl) hb); have n3_ := Aside0.mk (below_step (by exact zbo HB GE562) hb); replace BK554 := zfk BK554 NB554_562 hb; replace BK555 := zfk BK555 NB555_562 hb; clear HO560; clear BK562; clear HB; have HO560 := n0_; have HO567 := n1_; have BK562 := n2_; have HB := n3_; clear n0_ n1_ n2_ n3_; (try clear hb); (try clear hb2); (try clear hk); (try clear hi); (try clear ho0)) | ((with_reducible refine gate_dst (N := 11) rfl ?_); refine box_event ?hg (N := 11) ?hd (cs := #[.int .i64 0, .int .i64 0, .slice none 0 0]) (t := 29) ?hr ?_; (case hd => rfl); (case hg => rfl); (case hr => first | (go_simp; done) | (go_simp; rfl)); intro gb569 hg w35 hbox hb; have GW569 := zg HB hg; have GE569 := zg HB hg; have NB554_569 := zn BK554 hg; have NB569_554 := zn' BK554 hg; have NB555_569 := zn BK555 hg; have NB569_555 := zn' BK555 hg; have NB562_569 := zn BK562 hg; have NB569_562 := zn' BK562 hg; have n0_ := Aside0.mk (hbox); replace HO560 := zr HO560 hb; replace HO567 := zr HO567 hb; replace BK554 := zk BK554 hb; replace BK555 := zk BK555 hb; replace BK562 := zk BK562 hb; replace HB := zb HB hb; have BK569 := n0_; clear n0_; clear hb hbox hg; have hnb36 := NB569_554.out; have hnc36 := NB554_569.out; have hnb37 := NB569_555.out; have hnc37 := NB555_569.out; have hnb38 := NB569_562.out; have hnc38 := NB562_569.out; obtain ⟨hcz39_0, hcz39_1, hcz39_2, hfz39_0, hfz39_1, hfz39_2⟩ := zq3 BK569; obtain ⟨Ao40, co40, eo40⟩ := Kd.R_slice HO567.out; subst eo40; obtain ⟨hcz41_0, hcz41_1, hcz41_2, hfz41_0, hfz41_1, hfz41_2⟩ := zq3 BK554; obtain ⟨hcz42_0, hcz42_1, hcz42_2, hcz42_3, hfz42_0, hfz42_1, hfz42_2, hfz42_3⟩ := zq4 BK555) | ((with_reducible refine gate_callee (f := 15) rfl ?_); refine goesL_ (some 40) rfl rfl Try.func15 (by kernel_rfl) rfl #[.agg #[.int .i64 a0_0, .int .i64 a0_1, .slice A0_2 l0_2.length c0_2], .agg #[.int .i64 a1_0, .int .i64 a1_1, .int .i64 a1_2, .int .i64 a1_3], .int .i64 a2, .int .i64 a3] rfl (by (try simp only [List.map_toArray, List.map_cons, List.map_nil]); first | done | rfl | (simp only [List.length_drop, List.length_take]; rfl)) ?_; (with_reducible refine (wand_Soft.calls k a0_0 a0_1 _ _ l0_2 a1_0 a1_1 a1_2 a1_3 a2 a3 t570 t571 t572 t575 _ ?side1 ?side2 A7.out).mono ?_); (case side1 => exact Kd.C_below HR0_2.out (by exact zbo HB GE569)); (case side2 => exact HC0_2.out); rintro e w43 ⟨v573, rfl, ho0, hb⟩; refine ⟨_, rfl, ?_⟩; have n0_ := Aside0.mk (Kd.R_below (by exact zro HO560 BK569 (by decide)) hb); have n1_ := Aside0.mk (Kd.R_below (by exact zro HO567 BK569 (by decide)) hb); have n2_ := Aside0.mk (Kd.R_lower ho0 (below_size (by exact zbo HB GE569))); have n3_ := Aside0.mk (blk_below (g := gb569) (o := .cells #[.int .i64 t563, .int .i64 t564, .slice Ao40 t565.length co40] 29 (0, 0)) (by exact zp BK569 rfl) hb); have n4_ := Aside0.mk (below_step (by exact zbo HB GE569) hb); replace BK554 := zfk BK554 NB554_569 hb; replace BK555 := zfk BK555 NB555_569 hb; replace BK562 := zfk BK562 NB562_569 hb; clear HO560; clear HO567; clear BK569; clear HB; have HO560 := n0_; have HO567 := n1_; have HO574 := n2_; have BK569 := n3_; have HB := n4_; clear n0_ n1_ n2_ n3_ n4_; (try clear hb); (try clear hb2); (try clear hk); (try clear hi); (try clear ho0)) | ((with_reducible refine gate_dst (N := 13) rfl ?_); refine box_event ?hg (N := 13) ?hd (cs := #[.int .i64 0, .int .i64 0, .slice none 0 0]) (t := 29) ?hr ?_; (case hd => rfl); (case hg => rfl); (case hr => first | (go_simp; done) | (go_simp; rfl)); intro gb576 hg w44 hbox hb; have GW576 := zg HB hg; have GE576 := zg HB hg; have NB554_576 := zn BK554 hg; have NB576_554 := zn' BK554 hg; have NB555_576 := zn BK555 hg; have NB576_555 := zn' BK555 hg; have NB562_576 := zn BK562 hg; have NB576_562 := zn' BK562 hg; have NB569_576 := zn BK569 hg; have NB576_569 := zn' BK569 hg; have n0_ := Aside0.mk (hbox); replace HO560 := zr HO560 hb; replace HO567 := zr HO567 hb; replace HO574 := zr HO574 hb; replace BK554 := zk BK554 hb; replace BK555 := zk BK555 hb; replace BK562 := zk BK562 hb; replace BK569 := zk BK569 hb; replace HB := zb HB hb; have BK576 := n0_; clear n0_; clear hb hbox hg; have hnb45 := NB576_554.out; have hnc45 := NB554_576.out; have hnb46 := NB576_555.out; have hnc46 := NB555_576.out; have hnb47 := NB576_562.out; have hnc47 := NB562_576.out; have hnb48 := NB576_569.out; have hnc48 := NB569_576.out; obtain ⟨hcz49_0, hcz49_1, hcz49_2, hfz49_0, hfz49_1, hfz49_2⟩ := zq3 BK576; obtain ⟨Ao50, co50, eo50⟩ := Kd.R_slice HO574.out; subst eo50; obtain ⟨hcz51_0, hcz51_1, hcz51_2, hfz51_0, hfz51_1, hfz51_2⟩ := zq3 BK554; obtain ⟨hcz52_0, hcz52_1, hcz52_2, hcz52_3, hfz52_0, hfz52_1, hfz52_2, hfz52_3⟩ := zq4 BK555) | ((with_reducible refine gate_callee (f := 16) rfl ?_); refine goesL_ (some 48) rfl rfl Try.func16 (by kernel_rfl) rfl #[.agg #[.int .i64 a0_0, .int .i64 a0_1, .slice A0_2 l0_2.length c0_2], .agg #[.int .i64 a1_0, .int .i64 a1_1, .int .i64 a1_2, .int .i64 a1_3], .int .i64 a2, .int .i64 a3] rfl (by (try simp only [List.map_toArray, List.map_cons, List.map_nil]); first | done | rfl | (simp only [List.length_drop, List.length_take]; rfl)) ?_; (with_reducible refine (imageeditorref24_Soft.calls k a0_0 a0_1 _ _ l0_2 a1_0 a1_1 a1_2 a1_3 a2 a3 t577 t578 t579 t582 _ ?side1 ?side2 A8.out).mono ?_); (case side1 => exact Kd.C_below HR0_2.out (by exact zbo HB GE576)); (case side2 => exact HC0_2.out); rintro e w53 ⟨v580, rfl, ho0, hb⟩; refine ⟨_, rfl, ?_⟩; have n0_ := Aside0.mk (Kd.R_below (by exact zro HO560 BK576 (by decide)) hb); have n1_ := Aside0.mk (Kd.R_below (by exact zro HO567 BK576 (by decide)) hb); have n2_ := Aside0.mk (Kd.R_below (by exact zro HO574 BK576 (by decide)) hb); have n3_ := Aside0.mk (Kd.R_lower ho0 (below_size (by exact zbo HB GE576))); have n4_ := Aside0.mk (blk_below (g := gb576) (o := .cells #[.int .i64 t570, .int .i64 t571, .slice Ao50 t572.length co50] 29 (0, 0)) (by exact zp BK576 rfl) hb); have n5_ := Aside0.mk (below_step (by exact zbo HB GE576) hb); replace BK554 := zfk BK554 NB554_576 hb; replace BK555 := zfk BK555 NB555_576 hb; replace BK562 := zfk BK562 NB562_576 hb; replace BK569 := zfk BK569 NB569_576 hb; clear HO560; clear HO567; clear HO574; clear BK576; clear HB; have HO560 := n0_; have HO567 := n1_; have HO574 := n2_; have HO581 := n3_; have BK576 := n4_; have HB := n5_; clear n0_ n1_ n2_ n3_ n4_ n5_; (try clear hb); (try clear hb2); (try clear hk); (try clear hi); (try clear ho0); (try clear BK555)) | ((with_reducible refine gate_dst (N := 15) rfl ?_); refine box_event ?hg (N := 15) ?hd (cs := #[.int .i64 0, .int .i64 0, .slice none 0 0]) (t := 29) ?hr ?_; (case hd => rfl); (case hg => rfl); (case hr => first | (go_simp; done) | (go_simp; rfl)); intro gb583 hg w54 hbox hb; have GW583 := zg HB hg; have GE583 := zg HB hg; have NB554_583 := zn BK554 hg; have NB583_554 := zn' BK554 hg; have NB562_583 := zn BK562 hg; have NB583_562 := zn' BK562 hg; have NB569_583 := zn BK569 hg; have NB583_569 := zn' BK569 hg; have NB576_583 := zn BK576 hg; have NB583_576 := zn' BK576 hg; have n0_ := Aside0.mk (hbox); replace HO560 := zr HO560 hb; replace HO567 := zr HO567 hb; replace HO574 := zr HO574 hb; replace HO581 := zr HO581 hb; replace BK554 := zk BK554 hb; replace BK562 := zk BK562 hb; replace BK569 := zk BK569 hb; replace BK576 := zk BK576 hb; replace HB := zb HB hb; have BK583 := n0_; clear n0_; clear hb hbox hg; have hnb55 := NB583_554.out; have hnc55 := NB554_583.out; have hnb56 := NB583_562.out; have hnc56 := NB562_583.out; have hnb57 := NB583_569.out; have hnc57 := NB569_583.out; have hnb58 := NB583_576.out; have hnc58 := NB576_583.out; obtain ⟨hcz59_0, hcz59_1, hcz59_2, hfz59_0, hfz59_1, hfz59_2⟩ := zq3 BK583; obtain ⟨Ao60, co60, eo60⟩ := Kd.R_slice HO581.out; subst eo60; obtain ⟨hcz61_0, hcz61_1, hcz61_2, hfz61_0, hfz61_1, hfz61_2⟩ := zq3 BK554) | ((with_reducible refine gate_callee (f := 17) rfl ?_); refine goesL_ (some 53) rfl rfl Try.func17 (by kernel_rfl) rfl #[.agg #[.int .i64 a0_0, .int .i64 a0_1, .slice A0_2 l0_2.length c0_2]] rfl (by (try simp only [List.map_toArray, List.map_cons, List.map_nil]); first | done | rfl | (simp only [List.length_drop, List.length_take]; rfl)) ?_; (with_reducible refine (wand_Opaque.calls k a0_0 a0_1 _ _ l0_2 t584 t585 t586 t589 _ ?side1 ?side2 A9.out).mono ?_); (case side1 => exact Kd.C_below HR0_2.out (by exact zbo HB GE583)); (case side2 => exact HC0_2.out); rintro e w62 ⟨v587, rfl, ho0, hb⟩; refine ⟨_, rfl, ?_⟩; have n0_ := Aside0.mk (Kd.R_below (by exact zro HO560 BK583 (by decide)) hb); have n1_ := Aside0.mk (Kd.R_below (by exact zro HO567 BK583 (by decide)) hb); have n2_ := Aside0.mk (Kd.R_below (by exact zro HO574 BK583 (by decide)) hb); have n3_ := Aside0.mk (Kd.R_below (by exact zro HO581 BK583 (by decide)) hb); have n4_ := Aside0.mk (Kd.R_lower ho0 (below_size (by exact zbo HB GE583))); have n5_ := Aside0.mk (blk_below (g := gb583) (o := .cells #[.int .i64 t577, .int .i64 t578, .slice Ao60 t579.length co60] 29 (0, 0)) (by exact zp BK583 rfl) hb); have n6_ := Aside0.mk (below_step (by exact zbo HB GE583) hb); replace BK554 := zfk BK554 NB554_583 hb; replace BK562 := zfk BK562 NB562_583 hb; replace BK569 := zfk BK569 NB569_583 hb; replace BK576 := zfk BK576 NB576_583 hb; clear HO560; clear HO567; clear HO574; clear HO581; clear BK583; clear HB; have HO560 := n0_; have HO567 := n1_; have HO574 := n2_; have HO581 := n3_; have HO588 := n4_; have BK583 := n5_; have HB := n6_; clear n0_ n1_ n2_ n3_ n4_ n5_ n6_; (try clear hb); (try clear hb2); (try clear hk); (try clear hi); (try clear ho0)) | ((with_reducible refine gate_dst (N := 17) rfl ?_); refine box_event ?hg (N := 17) ?hd (cs := #[.int .i64 0, .int .i64 0, .slice none 0 0]) (t := 29) ?hr ?_; (case hd => rfl); (case hg => rfl); (case hr => first | (go_simp; done) | (go_simp; rfl)); intro gb590 hg w63 hbox hb; have GW590 := zg HB hg; have GE590 := zg HB hg; have NB554_590 := zn BK554 hg; have NB590_554 := zn' BK554 hg; have NB562_590 := zn BK562 hg; have NB590_562 := zn' BK562 hg; have NB569_590 := zn BK569 hg; have NB590_569 := zn' BK569 hg; have NB576_590 := zn BK576 hg; have NB590_576 := zn' BK576 hg; have NB583_590 := zn BK583 hg; have NB590_583 := zn' BK583 hg; have n0_ := Aside0.mk (hbox); replace HO560 := zr HO560 hb; replace HO567 := zr HO567 hb; replace HO574 := zr HO574 hb; replace HO581 := zr HO581 hb; replace HO588 := zr HO588 hb; replace BK554 := zk BK554 hb; replace BK562 := zk BK562 hb; replace BK569 := zk BK569 hb; replace BK576 := zk BK576 hb; replace BK583 := zk BK583 hb; replace HB := zb HB hb; have BK590 := n0_; clear n0_; clear hb hbox hg; have hnb64 := NB590_554.out; have hnc64 := NB554_590.out; have hnb65 := NB590_562.out; have hnc65 := NB562_590.out; have hnb66 := NB590_569.out; have hnc66 := NB569_590.out; have hnb67 := NB590_576.out; have hnc67 := NB576_590.out; have hnb68 := NB590_583.out; have hnc68 := NB583_590.out; obtain ⟨hcz69_0, hcz69_1, hcz69_2, hfz69_0, hfz69_1, hfz69_2⟩ := zq3 BK590; obtain ⟨Ao70, co70, eo70⟩ := Kd.R_slice HO588.out; subst eo70; obtain ⟨hcz71_0, hcz71_1, hcz71_2, hfz71_0, hfz71_1, hfz71_2⟩ := zq3 BK554) | ((with_reducible refine gate_callee (f := 18) rfl ?_); refine goesL_ (some 58) rfl rfl Try.func18 (by kernel_rfl) rfl #[.agg #[.int .i64 a0_0, .int .i64 a0_1, .slice A0_2 l0_2.length c0_2]] rfl (by (try simp only [List.map_toArray, List.map_cons, List.map_nil]); first | done | rfl | (simp only [List.length_drop, List.length_take]; rfl)) ?_; (with_reducible refine (imageeditorref24_Opaque.calls k a0_0 a0_1 _ _ l0_2 t591 t592 t593 t596 _ ?side1 ?side2 A10.out).mono ?_); (case side1 => exact Kd.C_below HR0_2.out (by exact zbo HB GE590)); (case side2 => exact HC0_2.out); rintro e w72 ⟨v594, rfl, ho0, hb⟩; refine ⟨_, rfl, ?_⟩; have n0_ := Aside0.mk (Kd.R_below (by exact zro HO560 BK590 (by decide)) hb); have n1_ := Aside0.mk (Kd.R_below (by exact zro HO567 BK590 (by decide)) hb); have n2_ := Aside0.mk (Kd.R_below (by exact zro HO574 BK590 (by decide)) hb); have n3_ := Aside0.mk (Kd.R_below (by exact zro HO581 BK590 (by decide)) hb); have n4_ := Aside0.mk (Kd.R_below (by exact zro HO588 BK590 (by decide)) hb); have n5_ := Aside0.mk (Kd.R_lower ho0 (below_size (by exact zbo HB GE590))); have n6_ := Aside0.mk (blk_below (g := gb590) (o := .cells #[.int .i64 t584, .int .i64 t585, .slice Ao70 t586.length co70] 29 (0, 0)) (by exact zp BK590 rfl) hb); have n7_ := Aside0.mk (below_step (by exact zbo HB GE590) hb); replace BK554 := zfk BK554 NB554_590 hb; replace BK562 := zfk BK562 NB562_590 hb; replace BK569 := zfk BK569 NB569_590 hb; replace BK576 := zfk BK576 NB576_590 hb; replace BK583 := zfk BK583 NB583_590 hb; clear HO560; clear HO567; clear HO574; clear HO581; clear HO588; clear BK590; clear HB; have HO560 := n0_; have HO567 := n1_; have HO574 := n2_; have HO581 := n3_; have HO588 := n4_; have HO595 := n5_; have BK590 := n6_; have HB := n7_; clear n0_ n1_ n2_ n3_ n4_ n5_ n6_ n7_; (try clear hb); (try clear hb2); (try clear hk); (try clear hi); (try clear ho0); (try clear BK554)) | ((with_reducible refine gate_dst (N := 19) rfl ?_); refine box_event ?hg (N := 19) ?hd (cs := #[.int .i64 0, .int .i64 0, .slice none 0 0]) (t := 29) ?hr ?_; (case hd => rfl); (case hg => rfl); (case hr => first | (go_simp; done) | (go_simp; rfl)); intro gb597 hg w73 hbox hb; have GW597 := zg HB hg; have GE597 := zg HB hg; have NB562_597 := zn BK562 hg; have NB597_562 := zn' BK562 hg; have NB569_597 := zn BK569 hg; have NB597_569 := zn' BK569 hg; have NB576_597 := zn BK576 hg; have NB597_576 := zn' BK576 hg; have NB583_597 := zn BK583 hg; have NB597_583 := zn' BK583 hg; have NB590_597 := zn BK590 hg; have NB597_590 := zn' BK590 hg; have n0_ := Aside0.mk (hbox); replace HO560 := zr HO560 hb; replace HO567 := zr HO567 hb; replace HO574 := zr HO574 hb; replace HO581 := zr HO581 hb; replace HO588 := zr HO588 hb; replace HO595 := zr HO595 hb; replace BK562 := zk BK562 hb; replace BK569 := zk BK569 hb; replace BK576 := zk BK576 hb; replace BK583 := zk BK583 hb; replace BK590 := zk BK590 hb; replace HB := zb HB hb; have BK597 := n0_; clear n0_; clear hb hbox hg; have hnb74 := NB597_562.out; have hnc74 := NB562_597.out; have hnb75 := NB597_569.out; have hnc75 := NB569_597.out; have hnb76 := NB597_576.out; have hnc76 := NB576_597.out; have hnb77 := NB597_583.out; have hnc77 := NB583_597.out; have hnb78 := NB597_590.out; have hnc78 := NB590_597.out; obtain ⟨hcz79_0, hcz79_1, hcz79_2, hfz79_0, hfz79_1, hfz79_2⟩ := zq3 BK597; obtain ⟨Ao80, co80, eo80⟩ := Kd.R_slice HO595.out; subst eo80; obtain ⟨hcz81_0, hcz81_1, hcz81_2, hfz81_0, hfz81_1, hfz81_2⟩ := zq3 BK562; obtain ⟨hcz82_0, hcz82_1, hcz82_2, hfz82_0, hfz82_1, hfz82_2⟩ := zq3 BK569) | ((with_reducible refine gate_callee (f := 11) rfl ?_); refine goesL_ (some 63) rfl rfl Try.func11 (by kernel_rfl) rfl #[.agg #[.int .i64 t556, .int .i64 t557, .slice Ao31 t558.length co31], .agg #[.int .i64 t563, .int .i64 t564, .slice Ao40 t565.length co40]] rfl (by (try simp only [List.map_toArray, List.map_cons, List.map_nil]); first | done | rfl | (simp only [List.length_drop, List.length_take]; rfl)) ?_; (with_reducible refine (imageeditorlaw24_same.calls k t556 t557 _ _ t558 t563 t564 _ _ t565 true _ ?side1 ?side2 ?side3 ?side4 A11.out).mono ?_); (case side1 => refine (Kd.R_reads' (e := 3) (base := w.heap.size) (ok := fun k_ => True) (n := t558.length) (c := co31) ?_).2.2; exact (by exact zro HO560 BK597 (by decide))); (case side2 => exact (Kd.R_reads' HO560.out).2.1); (case side3 => refine (Kd.R_reads' (e := 3) (base := w.heap.size) (ok := fun k_ => True) (n := t565.length) (c := co40) ?_).2.2; exact (by exact zro HO567 BK597 (by decide))); (case side4 => exact (Kd.R_reads' HO567.out).2.1); rintro e w83 ⟨rfl, hb⟩; refine ⟨_, rfl, ?_⟩; have n0_ := Aside0.mk (Kd.R_below (by exact zro HO560 BK597 (by decide)) hb); have n1_ := Aside0.mk (Kd.R_below (by exact zro HO567 BK597 (by decide)) hb); have n2_ := Aside0.mk (Kd.R_below (by exact zro HO574 BK597 (by decide)) hb); have n3_ := Aside0.mk (Kd.R_below (by exact zro HO581 BK597 (by decide)) hb); have n4_ := Aside0.mk (Kd.R_below (by exact zro HO588 BK597 (by decide)) hb); have n5_ := Aside0.mk (Kd.R_below (by exact zro HO595 BK597 (by decide)) hb); have n6_ := Aside0.mk (blk_below (g := gb597) (o := .cells #[.int .i64 t591, .int .i64 t592, .slice Ao80 t593.length co80] 29 (0, 0)) (by exact zp BK597 rfl) hb); have n7_ := Aside0.mk (below_step (by exact zbo HB GE597) hb); replace BK562 := zfk BK562 NB562_597 hb; replace BK569 := zfk BK569 NB569_597 hb; replace BK576 := zfk BK576 NB576_597 hb; replace BK583 := zfk BK583 NB583_597 hb; replace BK590 := zfk BK590 NB590_597 hb; clear HO560; clear HO567; clear HO574; clear HO581; clear HO588; clear HO595; clear BK597; clear HB; have HO560 := n0_; have HO567 := n1_; have HO574 := n2_; have HO581 := n3_; have HO588 := n4_; have HO595 := n5_; have BK597 := n6_; have HB := n7_; clear n0_ n1_ n2_ n3_ n4_ n5_ n6_ n7_; (try clear hb); (try clear hb2); (try clear hk); (try clear hi); obtain ⟨hcz84_0, hcz84_1, hcz84_2, hfz84_0, hfz84_1, hfz84_2⟩ := zq3 BK576; obtain ⟨hcz85_0, hcz85_1, hcz85_2, hfz85_0, hfz85_1, hfz85_2⟩ := zq3 BK583; (try clear HO560); (try clear BK562); (try clear HO567); (try clear BK569); (try clear BK576); (try clear BK583)) | (go_at_call 11; (with_reducible refine (imageeditorlaw24_same.calls k t570 t571 _ _ t572 t577 t578 _ _ t579 true _ ?side1 ?side2 ?side3 ?side4 A14.out).mono ?_); (case side1 => repeat (first | exact (Kd.R_reads' HO574.out).2.2 | (with_reducible refine Kd.C_alloc ?_ _) | (with_reducible refine Kd.C_drewN ?_ _) | (with_reducible refine Kd.C_drew ?_))); (case side2 => exact (Kd.R_reads' HO574.out).2.1); (case side3 => repeat (first | exact (Kd.R_reads' HO581.out).2.2 | (with_reducible refine Kd.C_alloc ?_ _) | (with_reducible refine Kd.C_drewN ?_ _) | (with_reducible refine Kd.C_drew ?_))); (case side4 => exact (Kd.R_reads' HO581.out).2.1); rintro e w86 ⟨rfl, hb⟩; replace HO574 := zr HO574 hb; replace HO581 := zr HO581 hb; replace HO588 := zr HO588 hb; replace HO595 := zr HO595 hb; replace BK590 := zk BK590 hb; replace BK597 := zk BK597 hb; replace HB := zb HB hb; (try clear hb); (try clear hb2); (try clear hk); (try clear hi); obtain ⟨hcz87_0, hcz87_1, hcz87_2, hfz87_0, hfz87_1, hfz87_2⟩ := zq3 BK590; obtain ⟨hcz88_0, hcz88_1, hcz88_2, hfz88_0, hfz88_1, hfz88_2⟩ := zq3 BK597; (try clear HO574); (try clear HO581); (try clear BK590); (try clear BK597)) | (go_at_call 11; (with_reducible refine (imageeditorlaw24_same.calls k t584 t585 _ _ t586 t591 t592 _ _ t593 true _ ?side1 ?side2 ?side3 ?side4 A17.out).mono ?_); (case side1 => repeat (first | exact (Kd.R_reads' HO588.out).2.2 | (with_reducible refine Kd.C_alloc ?_ _) | (with_reducible refine Kd.C_drewN ?_ _) | (with_reducible refine Kd.C_drew ?_))); (case side2 => exact (Kd.R_reads' HO588.out).2.1); (case side3 => repeat (first | exact (Kd.R_reads' HO595.out).2.2 | (with_reducible refine Kd.C_alloc ?_ _) | (with_reducible refine Kd.C_drewN ?_ _) | (with_reducible refine Kd.C_drew ?_))); (case side4 => exact (Kd.R_reads' HO595.out).2.1); rintro e w89 ⟨rfl, hb⟩; replace HO588 := zr HO588 hb; replace HO595 := zr HO595 hb; replace HB := zb HB hb; (try clear hb); (try clear hb2); (try clear hk); (try clear hi); (try clear HO588); (try clear HO595)) | (go_at_call 12; (with_reducible refine (imageeditorlaw24_awake.calls k  t601 _ A20.out).mono ?_); rintro e w90 ⟨rfl, hb⟩; replace HB := zb HB hb; (try clear hb); (try clear hb2); (try clear hk); (try clear hi)))
        go_ret
        exact ⟨by first | rfl | (simp [errW_none, errW_some] <;> rfl) | (simp [*, errW_none, errW_some] <;> rfl), by exact zb0 HB⟩
      ·rw [if_neg c19] at H
       have c19b0 : (t589 == t596) = false := beq_eq_false_iff_ne.mpr c19
       have c19b1 : (t589 != t596) = true := bne_iff_ne.mpr c19
       as_aux_lemma =>
        exact absurd HT.out (by rw [← Option.some.inj H]; decide)
     ·replace c18 := Bool.eq_false_iff.mpr c18
      subst c18
      have H1 : (some false) = some r := by rw [if_neg (show ¬ (false = true) by decide)] at H; exact H
      clear H
      have H := H1
      clear H1
      as_aux_lemma =>
       exact absurd HT.out (by rw [← Option.some.inj H]; decide)
    ·rw [if_neg c16] at H
     have c16b0 : (t575 == t582) = false := beq_eq_false_iff_ne.mpr c16
     have c16b1 : (t575 != t582) = true := bne_iff_ne.mpr c16
     as_aux_lemma =>
      exact absurd HT.out (by rw [← Option.some.inj H]; decide)
   ·replace c15 := Bool.eq_false_iff.mpr c15
    subst c15
    have H1 : (some false) = some r := by rw [if_neg (show ¬ (false = true) by decide)] at H; exact H
    clear H
    have H := H1
    clear H1
    as_aux_lemma =>
     exact absurd HT.out (by rw [← Option.some.inj H]; decide)
  ·rw [if_neg c13] at H
   have c13b0 : (t561 == t568) = false := beq_eq_false_iff_ne.mpr c13
   have c13b1 : (t561 != t568) = true := bne_iff_ne.mpr c13
   as_aux_lemma =>
    exact absurd HT.out (by rw [← Option.some.inj H]; decide)
 ·replace c12 := Bool.eq_false_iff.mpr c12
  subst c12
  have H1 : (some false) = some r := by rw [if_neg (show ¬ (false = true) by decide)] at H; exact H
  clear H
  have H := H1
  clear H1
  as_aux_lemma =>
   exact absurd HT.out (by rw [← Option.some.inj H]; decide)

end Go.Proofs.Ytmmncannibnklaa.G
