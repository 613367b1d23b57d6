/- Contracts of functions of the program, each as it is called: what it computes (.f), that it computes no less with more rounds (.mono), and that a call returns just that (.calls). No conditions but those that each contract names. Written by a program of this session (wip/gx.py over the kit's print). -/
import Derived.Test.YtmmncannibnklaaG0
namespace Go.Proofs.Ytmmncannibnklaa.G
open Go.RowKit Go.Proofs.YtmmncannibnklaaW.PrintWords Go.Proofs.YtmmncannibnklaaW.PrintLast Go.Proofs.YtmmncannibnklaaW.PrintMore
attribute [local go_sem] max2_int min2_int max_two min_two max_three min_three max_four min_four   -- for this text's walks alone
set_option linter.unusedVariables false
set_option linter.unusedSimpArgs false


/-! ### imageeditorlaw24_reds: function 28 -/
def imageeditorlaw24_reds.l0 : Nat → List Int → Int → Int → Int → Int → List (S37) → Option (Int × Int × (List (S37)))
 | 0, _, _, _, _, _, _ => none
 | k + 1, x14, x15, x16, x347000, x347001, x347002 => if x16 < x15 then (if 0 ≤ x16 then (if x16 < (x14.length : Int) then (if x347002.length < 4398046511104 then (imageeditorlaw24_reds.l0 k x14 x15 (wrap64 (x16 + 1)) x347000 x347001 (x347002 ++ [(⟨rd x14 x16, 0, 0, 0⟩ : S37)])) else (none)) else (none)) else (none)) else (some (x347000, x347001, x347002))
def imageeditorlaw24_reds.f (k : Nat) (a0 : Int) (l1 : List Int) : Option (Int × Int × (List (S37))) := if a0 = 0 then (none) else (imageeditorlaw24_reds.l0 k l1 (l1.length : Int) 0 a0 (wrap64 ((l1.length : Int) / a0)) ([] : List (S37)))
theorem imageeditorlaw24_reds.mono_l : ∀ k, (∀ y0 y1 y2 y3 y4 y5, LeO (imageeditorlaw24_reds.l0 k y0 y1 y2 y3 y4 y5) (imageeditorlaw24_reds.l0 (k + 1) y0 y1 y2 y3 y4 y5))
 | 0 => fun _ _ _ _ _ _ r h => by simp [imageeditorlaw24_reds.l0] at h
 | k + 1 => by
  have ih0 := imageeditorlaw24_reds.mono_l k
  ·intro y0 y1 y2 y3 y4 y5
   unfold imageeditorlaw24_reds.l0
   repeat' first
   | (with_reducible exact ih0 _ _ _ _ _ _)
   | (with_reducible exact LeO.refl _)
   | (with_reducible exact LeO.none _)
   | (with_reducible refine LeO.ite ?_ ?_)
   | (with_reducible refine LeO.bind ?_ (fun _ => ?_))
   | exact ih0 _ _ _ _ _ _
   | exact LeO.none _
   | refine LeO.ite ?_ ?_
   | refine LeO.bind ?_ (fun _ => ?_)
theorem imageeditorlaw24_reds.mono : ∀ a0 a1 k, LeO (imageeditorlaw24_reds.f k a0 a1) (imageeditorlaw24_reds.f (k + 1) a0 a1) := by
 intro a0 a1 k
 have ih0 := imageeditorlaw24_reds.mono_l k
 unfold imageeditorlaw24_reds.f
 repeat' first
   | (with_reducible exact ih0 _ _ _ _ _ _)
   | (with_reducible exact LeO.refl _)
   | (with_reducible exact LeO.none _)
   | (with_reducible refine LeO.ite ?_ ?_)
   | (with_reducible refine LeO.bind ?_ (fun _ => ?_))
   | exact ih0 _ _ _ _ _ _
   | exact LeO.none _
   | refine LeO.ite ?_ ?_
   | refine LeO.bind ?_ (fun _ => ?_)
set_option maxHeartbeats 8000000 in
set_option maxRecDepth 100000 in
theorem imageeditorlaw24_reds.calls (k : Nat) (a0 : Int) (A1 : Option Addr) (c1 : Nat) (l1 : List Int) (r1 : Int) (r2 : Int) (r3 : List (S37)) (w : World) (hr1 : Kd.C (Kd.int .i64) w A1 l1.length l1) (hc1 : l1.length ≤ c1) (h : imageeditorlaw24_reds.f k a0 l1 = some (r1, r2, r3)) :
  Calls Try.prog 28 #[.int .i64 a0, .slice A1 l1.length c1] w fun e w' => ∃ v2_ : Value, e = .returned (.agg #[.int .i64 r1, .int .i64 r2, v2_]) ∧ Kd.R k37 37 w' w.heap.size (fun _ => True) v2_ r3 ∧ Below w.heap.size w w' := by
 have hu24 := Try.underlying24
 have hu37 := Try.underlying37
 have HR1 := Aside0.mk hr1
 have HC1 := Aside0.mk hc1
 clear hr1 hc1
 have HB := Aside0.mk (Below.refl w.heap.size w)
 have H : (if a0 = 0 then (none) else (imageeditorlaw24_reds.l0 k l1 (l1.length : Int) 0 a0 (wrap64 ((l1.length : Int) / a0)) ([] : List (S37)))) = some (r1, r2, r3) := h
 clear h
 by_cases c3 : a0 = 0
 ·rw [if_pos c3] at H
  exact absurd H (by simp)
 ·rw [if_neg c3] at H
  have c3b0 : (a0 == 0) = false := beq_eq_false_iff_ne.mpr c3
  have c3b1 : (a0 != 0) = true := bne_iff_ne.mpr c3
  have H' := Aside0.mk H
  clear H
  go_enter Try.func28, Try.ntmps28
  go_wp2_with (first | ((with_reducible refine gate_dst (N := 4) rfl ?_); refine box_event ?hg (N := 4) ?hd (cs := #[.int .i64 0, .int .i64 0, .slice none 0 0]) (t := 24) ?hr ?_; (case hd => rfl); (case hg => rfl); (case hr => first | (go_simp; done) | (go_simp; rfl)); intro gb345 hg w4 hbox hb; have GW345 := zg HB hg; have GE345 := zg HB hg; have n0_ := Aside0.mk (hbox); replace HB := zb HB hb; have BK345 := n0_; clear n0_; clear hb hbox hg) | ((with_reducible refine gate_dst (N := 5) rfl ?_); refine box_event ?hg (N := 5) ?hd (cs := #[.int .i64 0, .int .i64 0, .slice none 0 0]) (t := 24) ?hr ?_; (case hd => rfl); (case hg => rfl); (case hr => first | (go_simp; done) | (go_simp; rfl)); intro gb346 hg w5 hbox hb; have GW346 := zg HB hg; have GE346 := zg HB hg; have NB345_346 := zn BK345 hg; have NB346_345 := zn' BK345 hg; have n0_ := Aside0.mk (hbox); replace BK345 := zk BK345 hb; replace HB := zb HB hb; have BK346 := n0_; clear n0_; clear hb hbox hg; have hnb6 := NB346_345.out; have hnc6 := NB345_346.out; obtain ⟨hcz7_0, hcz7_1, hcz7_2, hfz7_0, hfz7_1, hfz7_2⟩ := zq3 BK346))
  (try simp only [Act.put, sA, sB, sC])
  go_loopg [16] k (fun kq v16 w' => ∃ (x16_1 : Int) (x347002_1 : List (S37)) (u347002 : Value), v16 = .int .i64 x16_1 ∧ Aside0 (imageeditorlaw24_reds.l0 kq l1 (l1.length : Int) x16_1 a0 (wrap64 ((l1.length : Int) / a0)) x347002_1 = some (r1, r2, r3)) ∧ Aside0 (kq ≤ k) ∧ Aside0 (Kd.R k37 37 w' w.heap.size (fun _ => True) u347002 x347002_1) ∧ Aside0 (w'.heap[gb345]? = some (.cells #[.int .i64 0, .int .i64 0, (.slice none 0 0)] 24 (0, 0))) ∧ Aside0 (w'.heap[gb346]? = some (.cells #[.int .i64 a0, .int .i64 (wrap64 ((l1.length : Int) / a0)), u347002] 24 (0, 0))) ∧ Aside0 (Below w.heap.size w w'))
  case atStart => exact ⟨(0), (([] : List (S37))), (.slice none 0 0), (by first | rfl | (simp; done) | (simp [*]; done)), H', ⟨Nat.le_refl _⟩, ⟨by first | exact Kd.R_nil _ _ _ _ _ | exact Kd.N_nil _ _ _ _ _ | exact Kd.V_nil _ _ _ _ _ | exact Kd.Q_nil _ _ _ _ _ | exact Kd.S_nil _ _ _ _ _⟩, ⟨by exact zf BK345 NB345_346⟩, ⟨by exact zp BK346 rfl⟩, ⟨by exact zbo HB GE346⟩⟩
  case round =>
   clear H'
   try clear c1
   try clear c2
   try clear p2
   try clear c3
   try clear c3b0
   try clear c3b1
   try clear q3
   try clear c6
   try clear p6
   try clear hcz7_0
   try clear hcz7_1
   try clear hcz7_2
   try clear hfz7_0
   try clear hfz7_1
   try clear hfz7_2
   obtain ⟨x16_1, x347002_1, u347002, rfl, HA, HK1, HO_347002, BK345, BK346, HB⟩ := hrel
   cases gk with
   | zero => exact absurd HA.out (by simp [imageeditorlaw24_reds.l0])
   | succ k1 =>
    have H := HA.out
    clear HA
    simp only [imageeditorlaw24_reds.l0] at H
    by_cases c8 : x16_1 < (l1.length : Int)
    ·rw [if_pos c8] at H
     have c8b0 : decide (x16_1 < (l1.length : Int)) = true := decide_eq_true c8
     clear c8
     by_cases c9 : 0 ≤ x16_1
     ·rw [if_pos c9] at H
      have c9b0 : decide (0 ≤ x16_1) = true := decide_eq_true c9
      clear c9
      by_cases c10 : x16_1 < (l1.length : Int)
      ·rw [if_pos c10] at H
       have c10b0 : decide (x16_1 < (l1.length : Int)) = true := decide_eq_true c10
       clear c10
       by_cases c11 : x347002_1.length < 4398046511104
       ·rw [if_pos c11] at H
        have LMc11 := Aside0.mk c11
        clear c11
        obtain ⟨y348, hy348⟩ : ∃ y_ : List (S37), y_ = (x347002_1 ++ [(⟨rd l1 x16_1, 0, 0, 0⟩ : S37)]) := ⟨_, rfl⟩
        replace H : (imageeditorlaw24_reds.l0 k1 l1 (l1.length : Int) (wrap64 (x16_1 + 1)) a0 (wrap64 ((l1.length : Int) / a0)) y348) = some (r1, r2, r3) := by first | (rw [hy348]; with_reducible exact H) | (have H2_ := (Option.bind_some _ _).symm.trans H; rw [hy348]; with_reducible exact H2_) | (have H2_ := (Option.bind_some _ _).symm.trans H; with_reducible exact H2_) | with_reducible exact H | (rw [hy348]; exact H) | exact H
        have Ny348 := Aside0.mk hy348
        clear hy348
        have H' := Aside0.mk H
        clear H
        have p347 : 0 ≤ (x16_1 : Int) := of_decide_eq_true (by first | (with_reducible assumption) | assumption)
        have q347 : x16_1 < (l1.length : Int) := of_decide_eq_true (by first | (with_reducible assumption) | assumption)
        obtain ⟨ad347, e347, hx347_0⟩ := Kd.at_int HR1.out x16_1 p347 q347
        cases e347
        replace hx347_0 := (HB.out.cell (World.block_lt_of_cell? w _ hx347_0)).trans hx347_0
        replace p347 := eq_true p347
        replace q347 := eq_true q347
        have hnb12 := NB346_345.out
        have hnc12 := NB345_346.out
        obtain ⟨hcz13_0, hcz13_1, hcz13_2, hfz13_0, hfz13_1, hfz13_2⟩ := zq3 BK346
        go_wp2_with (first | ((with_reducible refine gate_builtin (b := .append) (xs := #[.tmp 21, .tmp 24]) rfl ?_); at_builtin; refine Kd.R_append k37 (w0 := w) w.heap.size rfl (.tmp 21) (.tmp 24) 22 37 (.agg #[(.int .i64 0), (.int .i64 0), (.int .i64 0), (.int .i64 0)]) 32 rfl Try.underlying22 info37 rfl (by decide) (by omega) u347002 x347002_1 (⟨rd l1 x16_1, 0, 0, 0⟩ : S37) [.int .i64 (rd l1 x16_1), .int .i64 0, .int .i64 0, .int .i64 0] (fun _ => True) (fun _ => False) rfl rfl ?aP (fun _ hk => hk.elim) ?aF ?aO ?aB ?aS ?aL ?_; (case aP => exact k37_mkM _ _ _ (⟨rd l1 x16_1, 0, 0, 0⟩ : S37)); (case aB => exact (by exact zb0 HB)); (case aF => exact (fun _ _ => trivial)); (case aO => exact (by exact zr0 HO_347002)); (case aS => exact (below_size (by exact zb0 HB))); (case aL => have := LMc11.out; omega); intro v349 w14 ho hb hg hat; rw [← Ny348.out] at ho; have n0_ := Aside0.mk (blk_grown (zk0 BK345) hg (Kd.R_ne HO_347002.out BK345.out (by decide))); have n1_ := Aside0.mk (blk_grown (zk0 BK346) hg (Kd.R_ne HO_347002.out BK346.out (by decide))); have n2_ := Aside0.mk (hb); have n3_ := Aside0.mk (ho); clear BK345; clear BK346; clear HB; clear HO_347002; have BK345 := n0_; have BK346 := n1_; have HB := n2_; have HO350 := n3_; clear n0_ n1_ n2_ n3_; clear ho hb hg hat; obtain ⟨Ao15, co15, eo15⟩ := Kd.R_slice HO350.out; subst eo15; obtain ⟨hcz16_0, hcz16_1, hcz16_2, hfz16_0, hfz16_1, hfz16_2⟩ := zq3 BK346))
        go_roundg k1
        case measure => have := HK1.out; omega
        case rel => exact ⟨(wrap64 (x16_1 + 1)), (y348), (.slice Ao15 y348.length co15), (by first | rfl | (simp; done) | (simp [*]; done)), H', ⟨by have := HK1.out; omega⟩, ⟨by exact zro HO350 BK346 (by decide)⟩, ⟨by exact zf BK345 NB345_346⟩, ⟨by exact zp BK346 rfl⟩, ⟨by exact zbo HB GE346⟩⟩
       ·rw [if_neg c11] at H
        exact absurd H (by simp)
      ·rw [if_neg c10] at H
       exact absurd H (by simp)
     ·rw [if_neg c9] at H
      exact absurd H (by simp)
    ·rw [if_neg c8] at H
     have c8b0 : decide (x16_1 < (l1.length : Int)) = false := decide_eq_false c8
     clear c8
     simp only [Option.some.injEq, Prod.mk.injEq] at H
     obtain ⟨rfl, rfl, rfl⟩ := H
     have hnb17 := NB346_345.out
     have hnc17 := NB345_346.out
     obtain ⟨hcz18_0, hcz18_1, hcz18_2, hfz18_0, hfz18_1, hfz18_2⟩ := zq3 BK346
     obtain ⟨hcz19_0, hcz19_1, hcz19_2, hfz19_0, hfz19_1, hfz19_2⟩ := zq3 BK345
     obtain ⟨Ao20, co20, eo20⟩ := Kd.R_slice HO_347002.out
     subst eo20
     go_wp2
     refine bodyPost_ret (results_cell_row rfl _ _ gb345 24 #[.int .i64 a0, .int .i64 (wrap64 ((l1.length : Int) / a0)), .slice Ao20 x347002_1.length co20] (0, 0) _ rfl (by exact zp BK345 rfl) Try.underlying24 rfl (by kernel_rfl)) rfl ?_
     exact ⟨_, by first | rfl | (simp [errW_none, errW_some] <;> rfl) | (simp [*, errW_none, errW_some] <;> rfl), by exact zro HO_347002 BK345 (by decide), by exact zbo HB GE345⟩

/-! ### imageeditorlaw24_values: function 29 -/
def imageeditorlaw24_values.f (a0 : Int) (l1 : List Int) : Option (Int × Int × List Int) := if a0 = 0 then (none) else (some (a0, wrap64 ((l1.length : Int) / a0), l1))
set_option maxHeartbeats 8000000 in
set_option maxRecDepth 100000 in
theorem imageeditorlaw24_values.calls (a0 : Int) (P1_ : Nat → Prop) (u9000_ : Value) (l1 : List Int) (r1 : Int) (r2 : Int) (r3 : List Int) (w0 w : World) (hB : Below w0.heap.size w0 w) (ho1 : Kd.R (Kd.int .i64) 3 w w0.heap.size P1_ u9000_ l1) (h : imageeditorlaw24_values.f a0 l1 = some (r1, r2, r3)) :
  Calls Try.prog 29 #[.int .i64 a0, u9000_] w fun e w' => ∃ v2_ : Value, e = .returned (.agg #[.int .i64 r1, .int .i64 r2, v2_]) ∧ Kd.R (Kd.int .i64) 3 w' w0.heap.size (fun k_ => (P1_ k_ ∨ w.heap.size ≤ k_)) v2_ r3 ∧ Below w0.heap.size w0 w' ∧ Kept w w' (fun k_ => P1_ k_) := by
 have hu29 := Try.underlying29
 have HO1 := Aside0.mk (show Kd.R (Kd.int .i64) 3 w w0.heap.size (fun k_ => (P1_ k_ ∨ w.heap.size ≤ k_)) u9000_ l1 from Kd.R_mono ho1 (fun k_ hk => (.inl hk)))
 have HK := Aside0.mk (Kept.refl w (fun k_ => P1_ k_))
 have HW0 := Aside0.mk hB.size
 have HB := Aside0.mk hB
 clear hB
 have H : (if a0 = 0 then (none) else (some (a0, wrap64 ((l1.length : Int) / a0), l1))) = some (r1, r2, r3) := h
 clear h
 by_cases c3 : a0 = 0
 ·rw [if_pos c3] at H
  exact absurd H (by simp)
 ·rw [if_neg c3] at H
  have c3b0 : (a0 == 0) = false := beq_eq_false_iff_ne.mpr c3
  have c3b1 : (a0 != 0) = true := bne_iff_ne.mpr c3
  simp only [Option.some.injEq, Prod.mk.injEq] at H
  obtain ⟨rfl, rfl, rfl⟩ := H
  go_enter Try.func29, Try.ntmps29
  go_wp2_with (first | ((with_reducible refine gate_dst (N := 4) rfl ?_); refine box_event ?hg (N := 4) ?hd (cs := #[.int .i64 0, .int .i64 0, .slice none 0 0]) (t := 29) ?hr ?_; (case hd => rfl); (case hg => rfl); (case hr => first | (go_simp; done) | (go_simp; rfl)); intro gb351 hg w4 hbox hb; have n0_ := Aside0.mk (Kept.below (S := (fun k_ => P1_ k_)) (by repeat (first | (with_reducible first | exact HK.out | apply Kept.alloc | apply Kept.drewN | apply Kept.drew) | exact HK.out)) hb); have n1_ := Aside0.mk (below_step (by repeat (first | (with_reducible first | exact HB.out | apply below_alloc | apply pw_below_drewN | apply below_drew1) | exact HB.out)) hb); have n2_ := Aside0.mk (hbox); have n3_ := Aside0.mk ((by rw [hg]; exact (by first | exact HK.out.1 | exact (show Kept w _ (fun k_ => P1_ k_) from by repeat (first | (with_reducible first | exact HK.out | apply Kept.alloc | apply Kept.drewN | apply Kept.drew) | exact HK.out)).1) : w.heap.size ≤ gb351)); have n4_ := Aside0.mk ((by rw [hg]; exact (below_size (by repeat (first | (with_reducible first | exact HB.out | apply below_alloc | apply pw_below_drewN | apply below_drew1) | exact HB.out))) : w0.heap.size ≤ gb351)); replace HO1 := zr HO1 hb; clear HK; clear HB; have HK := n0_; have HB := n1_; have BK351 := n2_; have GW351 := n3_; have GE351 := n4_; clear n0_ n1_ n2_ n3_ n4_; clear hb hbox hg; obtain ⟨Ao5, co5, eo5⟩ := Kd.R_slice HO1.out; subst eo5; obtain ⟨hcz6_0, hcz6_1, hcz6_2, hfz6_0, hfz6_1, hfz6_2⟩ := zq3 BK351))
  refine bodyPost_ret (results_cell_row rfl _ _ gb351 29 #[.int .i64 a0, .int .i64 (wrap64 ((l1.length : Int) / a0)), .slice Ao5 l1.length co5] (0, 0) _ rfl (by exact zp BK351 rfl) Try.underlying29 rfl (by kernel_rfl)) rfl ?_
  exact ⟨_, by first | rfl | (simp [errW_none, errW_some] <;> rfl) | (simp [*, errW_none, errW_some] <;> rfl), by exact zro HO1 BK351 (by decide), by repeat (first | (with_reducible first | exact HB.out | apply below_alloc | apply pw_below_drewN | apply below_drew1 | refine below_set ?_ GE351.out) | exact HB.out), by repeat (first | (with_reducible first | exact HK.out | apply Kept.alloc | apply Kept.drewN | apply Kept.drew | refine Kept.setCell ?_ (.inr GW351.out) _) | exact HK.out)⟩

end Go.Proofs.Ytmmncannibnklaa.G
