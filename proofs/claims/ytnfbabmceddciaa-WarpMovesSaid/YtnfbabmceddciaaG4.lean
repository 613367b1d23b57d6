/- Contracts of functions of the program, each as it is called: what it computes (.f), that it computes no less with more rounds (.mono), and that a call returns just that (.calls). No conditions but those that each contract names. Written by a program of this session (wip/gx.py over the kit's print). -/
import Derived.Test.YtnfbabmceddciaaG0
import Derived.Test.YtnfbabmceddciaaG1
import Derived.Test.YtnfbabmceddciaaG3
namespace Go.Proofs.Ytnfbabmceddciaa.G
open Go.RowKit Go.Proofs.YtnfbabmceddciaaW.PrintWords Go.Proofs.YtnfbabmceddciaaW.PrintLast Go.Proofs.YtnfbabmceddciaaW.PrintMore
attribute [local go_sem] max2_int min2_int max_two min_two max_three min_three max_four min_four max_five min_five   -- for this text's walks alone
set_option linter.unusedVariables false
set_option linter.unusedSimpArgs false


/-! ### warp_At: function 12 -/
def warp_At.f (k : Nat) (a0_0 : Int) (a0_1 : Int) (a0_2 : Int) (l0_3 : List (S28)) (a1 : Int) (a2 : Int) : Option (Int × Int) := (warp_Check.f k a0_0 a0_1 a0_2 l0_3).bind fun t138 => (if t138 = 0 then ((warp_at.f k a0_0 a0_1 a0_2 l0_3 a1 a2).bind fun E2 => (some (E2.1, E2.2))) else (some (0, 0)))
theorem warp_At.mono : ∀ a0 a1 a2 a3 a4 a5 k, LeO (warp_At.f k a0 a1 a2 a3 a4 a5) (warp_At.f (k + 1) a0 a1 a2 a3 a4 a5) := by
 intro a0 a1 a2 a3 a4 a5 k
 unfold warp_At.f
 repeat' first
   | (with_reducible exact warp_Check.mono _ _ _ _ _)
   | (with_reducible exact warp_at.mono _ _ _ _ _ _ _)
   | (with_reducible exact LeO.refl _)
   | (with_reducible exact LeO.none _)
   | (with_reducible refine LeO.ite ?_ ?_)
   | (with_reducible refine LeO.bind ?_ (fun _ => ?_))
   | exact warp_Check.mono _ _ _ _ _
   | exact warp_at.mono _ _ _ _ _ _ _
   | exact LeO.none _
   | refine LeO.ite ?_ ?_
   | refine LeO.bind ?_ (fun _ => ?_)
set_option maxHeartbeats 8000000 in
set_option maxRecDepth 100000 in
theorem warp_At.calls (k : Nat) (a0_0 : Int) (a0_1 : Int) (a0_2 : Int) (A0_3 : Option Addr) (c0_3 : Nat) (l0_3 : List (S28)) (a1 : Int) (a2 : Int) (r1 : Int) (r2 : Int) (w : World) (hr0_3 : Kd.C k28 w A0_3 l0_3.length l0_3) (hc0_3 : l0_3.length ≤ c0_3) (h : warp_At.f k a0_0 a0_1 a0_2 l0_3 a1 a2 = some (r1, r2)) :
  Calls Try.prog 12 #[.agg #[.int .i64 a0_0, .int .i64 a0_1, .int .i64 a0_2, .slice A0_3 l0_3.length c0_3], .int .i64 a1, .int .i64 a2] w fun e w' => e = .returned (.agg #[.int .i64 r1, .int .i64 r2]) ∧ Below w.heap.size w w' := by
 have hu24 := Try.underlying24
 have hu28 := Try.underlying28
 have E3 := Aside0.mk hr0_3
 have E4 := Aside0.mk hc0_3
 clear hr0_3 hc0_3
 have HB := Aside0.mk (Below.refl w.heap.size w)
 have H : ((warp_Check.f k a0_0 a0_1 a0_2 l0_3).bind fun t138 => (if t138 = 0 then ((warp_at.f k a0_0 a0_1 a0_2 l0_3 a1 a2).bind fun E2 => (some (E2.1, E2.2))) else (some (0, 0)))) = some (r1, r2) := h
 clear h
 replace H := Option.bind_eq_some_iff.mp H
 obtain ⟨t138, A40, H⟩ := H
 try dsimp only at H
 have A4 := Aside0.mk A40
 clear A40
 by_cases c5 : t138 = 0
 ·rw [if_pos c5] at H
  have E9 : (t138 == 0) = true := beq_iff_eq.mpr c5
  have G0 : (t138 != 0) = false := bne_eq_false_iff_eq.mpr c5
  clear c5
  replace H := Option.bind_eq_some_iff.mp H
  obtain ⟨⟨t139, t140⟩, A60, H⟩ := H
  try dsimp only at H
  have A6 := Aside0.mk A60
  clear A60
  simp only [Option.some.injEq, Prod.mk.injEq] at H
  obtain ⟨rfl, rfl⟩ := H
  go_enter Try.func12, Try.ntmps12
  go_wp2_with (first | ((with_reducible refine gate_dst (N := 3) rfl ?_); refine box_event ?hg (N := 3) ?hd (cs := #[.int .i64 a0_0, .int .i64 a0_1, .int .i64 a0_2, .slice A0_3 l0_3.length c0_3]) (t := 24) ?hr ?_; (case hd => rfl); (case hg => rfl); (case hr => first | (go_simp; done) | (go_simp; rfl)); intro G1 hg w7 hbox hb; have G2 := zg HB hg; have G3 := zg HB hg; have n0_ := Aside0.mk (hbox); replace HB := zb HB hb; have E0 := n0_; clear n0_; clear hb hbox hg) | ((with_reducible refine gate_dst (N := 6) rfl ?_); refine box_event ?hg (N := 6) ?hd (cs := #[.int .i64 0, .int .i64 0]) (t := 28) ?hr ?_; (case hd => rfl); (case hg => rfl); (case hr => first | (go_simp; done) | (go_simp; rfl)); intro E5 hg w8 hbox hb; have G4 := zg HB hg; have E6 := zg HB hg; have E7 := zn E0 hg; have E8 := zn' E0 hg; have n0_ := Aside0.mk (hbox); replace E0 := zk E0 hb; replace HB := zb HB hb; have E1 := n0_; clear n0_; clear hb hbox hg; have G5 := E7.out; have G6 := E8.out; obtain ⟨G7, G8, G9, V0, V1, V2, V3, V4⟩ := zq4 E0) | ((with_reducible refine gate_callee (f := 10) rfl ?_); refine goesL_ (some 8) rfl rfl Try.func10 (by kernel_rfl) rfl #[.agg #[.int .i64 a0_0, .int .i64 a0_1, .int .i64 a0_2, .slice A0_3 l0_3.length c0_3]] rfl (by (try simp only [List.map_toArray, List.map_cons, List.map_nil]); first | done | rfl | (simp only [List.length_drop, List.length_take]; rfl)) ?_; (with_reducible refine (warp_Check.calls k a0_0 a0_1 a0_2 _ _ l0_3 t138 _ ?side1 ?side2 A4.out).mono ?_); (case side1 => repeat (first | exact (Kd.C_below E3.out HB.out) | (with_reducible refine Kd.C_alloc ?_ _) | (with_reducible refine Kd.C_drewN ?_ _) | (with_reducible refine Kd.C_drew ?_))); (case side2 => exact E4.out); rintro e w11 ⟨rfl, hb⟩; refine ⟨_, rfl, ?_⟩; replace E0 := zk E0 hb; replace E1 := zk E1 hb; replace HB := zb HB hb; (try clear hb); obtain ⟨V5, V6, V7, V8, V9, Y0, Y1, Y2⟩ := zq4 E0) | ((with_reducible refine gate_callee (f := 29) rfl ?_); refine goesL_ (some 14) rfl rfl Try.func29 (by kernel_rfl) rfl #[.agg #[.int .i64 a0_0, .int .i64 a0_1, .int .i64 a0_2, .slice A0_3 l0_3.length c0_3], .int .i64 a1, .int .i64 a2] rfl (by (try simp only [List.map_toArray, List.map_cons, List.map_nil]); first | done | rfl | (simp only [List.length_drop, List.length_take]; rfl)) ?_; (with_reducible refine (warp_at.calls k a0_0 a0_1 a0_2 _ _ l0_3 a1 a2 t139 t140 _ ?side1 ?side2 A6.out).mono ?_); (case side1 => repeat (first | exact (Kd.C_below E3.out HB.out) | (with_reducible refine Kd.C_alloc ?_ _) | (with_reducible refine Kd.C_drewN ?_ _) | (with_reducible refine Kd.C_drew ?_))); (case side2 => exact E4.out); rintro e w13 ⟨rfl, hb⟩; refine ⟨_, rfl, ?_⟩; replace E0 := zk E0 hb; replace E1 := zk E1 hb; replace HB := zb HB hb; (try clear hb); obtain ⟨Y3, Y4, Y5, Y6⟩ := zq2 E1))
  refine bodyPost_ret (results_cell_row rfl _ _ E5 28 #[.int .i64 t139, .int .i64 t140] (0, 0) _ rfl (by exact zp E1 rfl) Try.underlying28 rfl (by kernel_rfl)) rfl ?_
  exact ⟨by first | rfl | (simp [errW_none, errW_some] <;> rfl) | (simp [*, errW_none, errW_some] <;> rfl), by exact zbo HB E6⟩
 rw [if_neg c5] at H
 have E9 : (t138 == 0) = false := beq_eq_false_iff_ne.mpr c5
 have G0 : (t138 != 0) = true := bne_iff_ne.mpr c5
 simp only [Option.some.injEq, Prod.mk.injEq] at H
 obtain ⟨rfl, rfl⟩ := H
 go_enter Try.func12, Try.ntmps12
 go_wp2_with (first | ((with_reducible refine gate_dst (N := 3) rfl ?_); refine box_event ?hg (N := 3) ?hd (cs := #[.int .i64 a0_0, .int .i64 a0_1, .int .i64 a0_2, .slice A0_3 l0_3.length c0_3]) (t := 24) ?hr ?_; (case hd => rfl); (case hg => rfl); (case hr => first | (go_simp; done) | (go_simp; rfl)); intro G1 hg w15 hbox hb; have G2 := zg HB hg; have G3 := zg HB hg; have n0_ := Aside0.mk (hbox); replace HB := zb HB hb; have E0 := n0_; clear n0_; clear hb hbox hg) | ((with_reducible refine gate_dst (N := 6) rfl ?_); refine box_event ?hg (N := 6) ?hd (cs := #[.int .i64 0, .int .i64 0]) (t := 28) ?hr ?_; (case hd => rfl); (case hg => rfl); (case hr => first | (go_simp; done) | (go_simp; rfl)); intro E5 hg w16 hbox hb; have G4 := zg HB hg; have E6 := zg HB hg; have E7 := zn E0 hg; have E8 := zn' E0 hg; have n0_ := Aside0.mk (hbox); replace E0 := zk E0 hb; replace HB := zb HB hb; have E1 := n0_; clear n0_; clear hb hbox hg; have Y7 := E7.out; have Y8 := E8.out; obtain ⟨Y9, Z0, Z1, Z2, Z3, Z4, Z5, Z6⟩ := zq4 E0) | ((with_reducible refine gate_callee (f := 10) rfl ?_); refine goesL_ (some 8) rfl rfl Try.func10 (by kernel_rfl) rfl #[.agg #[.int .i64 a0_0, .int .i64 a0_1, .int .i64 a0_2, .slice A0_3 l0_3.length c0_3]] rfl (by (try simp only [List.map_toArray, List.map_cons, List.map_nil]); first | done | rfl | (simp only [List.length_drop, List.length_take]; rfl)) ?_; (with_reducible refine (warp_Check.calls k a0_0 a0_1 a0_2 _ _ l0_3 t138 _ ?side1 ?side2 A4.out).mono ?_); (case side1 => repeat (first | exact (Kd.C_below E3.out HB.out) | (with_reducible refine Kd.C_alloc ?_ _) | (with_reducible refine Kd.C_drewN ?_ _) | (with_reducible refine Kd.C_drew ?_))); (case side2 => exact E4.out); rintro e w19 ⟨rfl, hb⟩; refine ⟨_, rfl, ?_⟩; replace E0 := zk E0 hb; replace E1 := zk E1 hb; replace HB := zb HB hb; (try clear hb); obtain ⟨Z7, Z8, Z9, J0⟩ := zq2 E1))
 refine bodyPost_ret (results_cell_row rfl _ _ E5 28 #[.int .i64 0, .int .i64 0] (0, 0) _ rfl (by exact zp E1 rfl) Try.underlying28 rfl (by kernel_rfl)) rfl ?_
 exact ⟨by first | rfl | (simp [errW_none, errW_some] <;> rfl) | (simp [*, errW_none, errW_some] <;> rfl), by exact zbo HB E6⟩

/-! ### warp_Reach: function 14 -/
def warp_Reach.l0 : Nat → Int → List (S28) → Int → Int → Option (Int)
 | 0, _, _, _, _ => none
 | k + 1, x3, x10, x11, x12 => if x12 < x11 then (if 0 ≤ x12 then (if x12 < (x10.length : Int) then (warp_Reach.l0 k (mx (mx (mx (mx x3 ((rd_T28 x10 x12).f0)) (wrap64 (-((rd_T28 x10 x12).f0)))) ((rd_T28 x10 x12).f1)) (wrap64 (-((rd_T28 x10 x12).f1)))) x10 x11 (wrap64 (x12 + 1))) else (none)) else (none)) else (some (wrap64 (Int.tdiv (wrap64 ((wrap64 (x3 + 65536)) - 1)) 65536)))
def warp_Reach.f (k : Nat) (a0_0 : Int) (a0_1 : Int) (a0_2 : Int) (l0_3 : List (S28)) : Option (Int) := (warp_Check.f k a0_0 a0_1 a0_2 l0_3).bind fun t162 => (if t162 = 0 then (warp_Reach.l0 k 0 l0_3 (l0_3.length : Int) 0) else (some 0))
theorem warp_Reach.mono_l : ∀ k, (∀ y0 y1 y2 y3, LeO (warp_Reach.l0 k y0 y1 y2 y3) (warp_Reach.l0 (k + 1) y0 y1 y2 y3))
 | 0 => fun _ _ _ _ r h => by simp [warp_Reach.l0] at h
 | k + 1 => by
  have ih0 := warp_Reach.mono_l k
  ·intro y0 y1 y2 y3
   unfold warp_Reach.l0
   repeat' first
   | (with_reducible exact ih0 _ _ _ _)
   | (with_reducible exact warp_Check.mono _ _ _ _ _)
   | (with_reducible exact LeO.refl _)
   | (with_reducible exact LeO.none _)
   | (with_reducible refine LeO.ite ?_ ?_)
   | (with_reducible refine LeO.bind ?_ (fun _ => ?_))
   | exact ih0 _ _ _ _
   | exact warp_Check.mono _ _ _ _ _
   | exact LeO.none _
   | refine LeO.ite ?_ ?_
   | refine LeO.bind ?_ (fun _ => ?_)
theorem warp_Reach.mono : ∀ a0 a1 a2 a3 k, LeO (warp_Reach.f k a0 a1 a2 a3) (warp_Reach.f (k + 1) a0 a1 a2 a3) := by
 intro a0 a1 a2 a3 k
 have ih0 := warp_Reach.mono_l k
 unfold warp_Reach.f
 repeat' first
   | (with_reducible exact ih0 _ _ _ _)
   | (with_reducible exact warp_Check.mono _ _ _ _ _)
   | (with_reducible exact LeO.refl _)
   | (with_reducible exact LeO.none _)
   | (with_reducible refine LeO.ite ?_ ?_)
   | (with_reducible refine LeO.bind ?_ (fun _ => ?_))
   | exact ih0 _ _ _ _
   | exact warp_Check.mono _ _ _ _ _
   | exact LeO.none _
   | refine LeO.ite ?_ ?_
   | refine LeO.bind ?_ (fun _ => ?_)
set_option maxHeartbeats 8000000 in
set_option maxRecDepth 100000 in
theorem warp_Reach.calls (k : Nat) (a0_0 : Int) (a0_1 : Int) (a0_2 : Int) (A0_3 : Option Addr) (c0_3 : Nat) (l0_3 : List (S28)) (r : Int) (w : World) (hr0_3 : Kd.C k28 w A0_3 l0_3.length l0_3) (hc0_3 : l0_3.length ≤ c0_3) (h : warp_Reach.f k a0_0 a0_1 a0_2 l0_3 = some r) :
  Calls Try.prog 14 #[.agg #[.int .i64 a0_0, .int .i64 a0_1, .int .i64 a0_2, .slice A0_3 l0_3.length c0_3]] w fun e w' => e = .returned (.int .i64 r) ∧ Below w.heap.size w w' := by
 have hu24 := Try.underlying24
 have hu28 := Try.underlying28
 have E8 := Aside0.mk hr0_3
 have G3 := Aside0.mk hc0_3
 clear hr0_3 hc0_3
 have HB := Aside0.mk (Below.refl w.heap.size w)
 have H : ((warp_Check.f k a0_0 a0_1 a0_2 l0_3).bind fun t162 => (if t162 = 0 then (warp_Reach.l0 k 0 l0_3 (l0_3.length : Int) 0) else (some 0))) = some r := h
 clear h
 replace H := Option.bind_eq_some_iff.mp H
 obtain ⟨t162, A20, H⟩ := H
 try dsimp only at H
 have A2 := Aside0.mk A20
 clear A20
 by_cases c3 : t162 = 0
 rotate_left
 ·rw [if_neg c3] at H
  have G4 : (t162 == 0) = false := beq_eq_false_iff_ne.mpr c3
  have G5 : (t162 != 0) = true := bne_iff_ne.mpr c3
  obtain rfl := Option.some.inj H
  go_enter Try.func14, Try.ntmps14
  go_wp2_with (first | ((with_reducible refine gate_dst (N := 1) rfl ?_); refine box_event ?hg (N := 1) ?hd (cs := #[.int .i64 a0_0, .int .i64 a0_1, .int .i64 a0_2, .slice A0_3 l0_3.length c0_3]) (t := 24) ?hr ?_; (case hd => rfl); (case hg => rfl); (case hr => first | (go_simp; done) | (go_simp; rfl)); intro G6 hg w18 hbox hb; have G8 := zg HB hg; have G9 := zg HB hg; have n0_ := Aside0.mk (hbox); replace HB := zb HB hb; have E0 := n0_; clear n0_; clear hb hbox hg; obtain ⟨Y9, Z0, Z1, Z2, Z3, Z4, Z5, Z6⟩ := zq4 E0) | ((with_reducible refine gate_callee (f := 10) rfl ?_); refine goesL_ (some 7) rfl rfl Try.func10 (by kernel_rfl) rfl #[.agg #[.int .i64 a0_0, .int .i64 a0_1, .int .i64 a0_2, .slice A0_3 l0_3.length c0_3]] rfl (by (try simp only [List.map_toArray, List.map_cons, List.map_nil]); first | done | rfl | (simp only [List.length_drop, List.length_take]; rfl)) ?_; (with_reducible refine (warp_Check.calls k a0_0 a0_1 a0_2 _ _ l0_3 t162 _ ?side1 ?side2 A2.out).mono ?_); (case side1 => repeat (first | exact (Kd.C_below E8.out HB.out) | (with_reducible refine Kd.C_alloc ?_ _) | (with_reducible refine Kd.C_drewN ?_ _) | (with_reducible refine Kd.C_drew ?_))); (case side2 => exact G3.out); rintro e w20 ⟨rfl, hb⟩; refine ⟨_, rfl, ?_⟩; replace E0 := zk E0 hb; replace HB := zb HB hb; (try clear hb)))
  go_ret
  exact ⟨by first | rfl | (simp [errW_none, errW_some] <;> rfl) | (simp [*, errW_none, errW_some] <;> rfl), by exact zb0 HB⟩

 rw [if_pos c3] at H
 have G4 : (t162 == 0) = true := beq_iff_eq.mpr c3
 have G5 : (t162 != 0) = false := bne_eq_false_iff_eq.mpr c3
 clear c3
 have H' := Aside0.mk H
 clear H
 go_enter Try.func14, Try.ntmps14
 go_wp2_with (first | ((with_reducible refine gate_dst (N := 1) rfl ?_); refine box_event ?hg (N := 1) ?hd (cs := #[.int .i64 a0_0, .int .i64 a0_1, .int .i64 a0_2, .slice A0_3 l0_3.length c0_3]) (t := 24) ?hr ?_; (case hd => rfl); (case hg => rfl); (case hr => first | (go_simp; done) | (go_simp; rfl)); intro G6 hg w4 hbox hb; have G8 := zg HB hg; have G9 := zg HB hg; have n0_ := Aside0.mk (hbox); replace HB := zb HB hb; have E0 := n0_; clear n0_; clear hb hbox hg; obtain ⟨V0, V1, V2, V3, V4, V5, V6, V7⟩ := zq4 E0) | ((with_reducible refine gate_callee (f := 10) rfl ?_); refine goesL_ (some 7) rfl rfl Try.func10 (by kernel_rfl) rfl #[.agg #[.int .i64 a0_0, .int .i64 a0_1, .int .i64 a0_2, .slice A0_3 l0_3.length c0_3]] rfl (by (try simp only [List.map_toArray, List.map_cons, List.map_nil]); first | done | rfl | (simp only [List.length_drop, List.length_take]; rfl)) ?_; (with_reducible refine (warp_Check.calls k a0_0 a0_1 a0_2 _ _ l0_3 t162 _ ?side1 ?side2 A2.out).mono ?_); (case side1 => repeat (first | exact (Kd.C_below E8.out HB.out) | (with_reducible refine Kd.C_alloc ?_ _) | (with_reducible refine Kd.C_drewN ?_ _) | (with_reducible refine Kd.C_drew ?_))); (case side2 => exact G3.out); rintro e w6 ⟨rfl, hb⟩; refine ⟨_, rfl, ?_⟩; replace E0 := zk E0 hb; replace HB := zb HB hb; (try clear hb); obtain ⟨V8, V9, Y0, Y1, Y2, Y3, Y4, Y5⟩ := zq4 E0))
 (try simp only [Act.put, sA, sB, sC])
 go_loopg [3, 12] k (fun kq v3 v12 w' => ∃ (x3_1 : Int) (x12_1 : Int), v3 = .int .i64 x3_1 ∧ v12 = .int .i64 x12_1 ∧ Aside0 (warp_Reach.l0 kq x3_1 l0_3 (l0_3.length : Int) x12_1 = some r) ∧ Aside0 (kq ≤ k) ∧ Aside0 (w'.heap[G6]? = some (.cells #[.int .i64 a0_0, .int .i64 a0_1, .int .i64 a0_2, (.slice A0_3 l0_3.length c0_3)] 24 (0, 0))) ∧ Aside0 (Below w.heap.size w w'))
 case atStart => exact ⟨(0), (0), (by first | rfl | (simp; done) | (simp [*]; done)), (by first | rfl | (simp; done) | (simp [*]; done)), H', ⟨Nat.le_refl _⟩, ⟨by exact zk0 E0⟩, ⟨by exact zb0 HB⟩⟩
 case round =>
  clear H'
  try clear c1
  try clear p2
  try clear c3
  try clear G4
  try clear G5
  try clear q4
  try clear V0
  try clear V1
  try clear V2
  try clear V3
  try clear V8
  try clear V9
  try clear Y0
  try clear Y1
  try clear V4
  try clear V5
  try clear V6
  try clear V7
  try clear Y2
  try clear Y3
  try clear Y4
  try clear Y5
  obtain ⟨x3_1, x12_1, rfl, rfl, HA, HK1, E0, HB⟩ := hrel
  cases gk with
  | zero => exact absurd HA.out (by simp [warp_Reach.l0])
  | succ k1 =>
   have H := HA.out
   clear HA
   simp only [warp_Reach.l0] at H
   by_cases c8 : x12_1 < (l0_3.length : Int)
   rotate_left
   ·rw [if_neg c8] at H
    have Y6 : decide (x12_1 < (l0_3.length : Int)) = false := decide_eq_false c8
    clear c8
    obtain rfl := Option.some.inj H
    go_wp2
    go_ret
    exact ⟨by first | rfl | (simp [errW_none, errW_some] <;> rfl) | (simp [*, errW_none, errW_some] <;> rfl), by exact zb0 HB⟩
   rw [if_pos c8] at H
   have Y6 : decide (x12_1 < (l0_3.length : Int)) = true := decide_eq_true c8
   clear c8
   by_cases c9 : 0 ≤ x12_1
   rotate_left
   ·rw [if_neg c9] at H
    exact absurd H (by simp)
   rw [if_pos c9] at H
   have Z7 : decide (0 ≤ x12_1) = true := decide_eq_true c9
   clear c9
   by_cases c10 : x12_1 < (l0_3.length : Int)
   rotate_left
   ·rw [if_neg c10] at H
    exact absurd H (by simp)
   rw [if_pos c10] at H
   have Z8 : decide (x12_1 < (l0_3.length : Int)) = true := decide_eq_true c10
   clear c10
   obtain ⟨E1, E5⟩ : ∃ j_ : Int, (mx x3_1 ((rd_T28 l0_3 x12_1).f0)) = j_ := ⟨_, rfl⟩
   replace H : (warp_Reach.l0 k1 (mx (mx (mx (E1) (wrap64 (-((rd_T28 l0_3 x12_1).f0)))) ((rd_T28 l0_3 x12_1).f1)) (wrap64 (-((rd_T28 l0_3 x12_1).f1)))) l0_3 (l0_3.length : Int) (wrap64 (x12_1 + 1))) = some r := by first | (rw [E5] at H; exact H) | (simp only [E5] at H ⊢; exact H)
   have hji11_ : (if x3_1 < ((rd_T28 l0_3 x12_1).f0) then ((rd_T28 l0_3 x12_1).f0) else x3_1) = E1 := E5
   obtain ⟨E3, E6⟩ : ∃ j_ : Int, (mx (E1) (wrap64 (-((rd_T28 l0_3 x12_1).f0)))) = j_ := ⟨_, rfl⟩
   replace H : (warp_Reach.l0 k1 (mx (mx (E3) ((rd_T28 l0_3 x12_1).f1)) (wrap64 (-((rd_T28 l0_3 x12_1).f1)))) l0_3 (l0_3.length : Int) (wrap64 (x12_1 + 1))) = some r := by first | (rw [E6] at H; exact H) | (simp only [E6] at H ⊢; exact H)
   have hji12_ : (if (E1) < (wrap64 (-((rd_T28 l0_3 x12_1).f0))) then (wrap64 (-((rd_T28 l0_3 x12_1).f0))) else (E1)) = E3 := E6
   obtain ⟨E4, E7⟩ : ∃ j_ : Int, (mx (E3) ((rd_T28 l0_3 x12_1).f1)) = j_ := ⟨_, rfl⟩
   replace H : (warp_Reach.l0 k1 (mx (E4) (wrap64 (-((rd_T28 l0_3 x12_1).f1)))) l0_3 (l0_3.length : Int) (wrap64 (x12_1 + 1))) = some r := by first | (rw [E7] at H; exact H) | (simp only [E7] at H ⊢; exact H)
   have hji13_ : (if (E3) < ((rd_T28 l0_3 x12_1).f1) then ((rd_T28 l0_3 x12_1).f1) else (E3)) = E4 := E7
   obtain ⟨E9, E2⟩ : ∃ j_ : Int, (mx (E4) (wrap64 (-((rd_T28 l0_3 x12_1).f1)))) = j_ := ⟨_, rfl⟩
   replace H : (warp_Reach.l0 k1 E9 l0_3 (l0_3.length : Int) (wrap64 (x12_1 + 1))) = some r := by first | (rw [E2] at H; exact H) | (simp only [E2] at H ⊢; exact H)
   have hji14_ : (if (E4) < (wrap64 (-((rd_T28 l0_3 x12_1).f1))) then (wrap64 (-((rd_T28 l0_3 x12_1).f1))) else (E4)) = E9 := E2
   have H' := Aside0.mk H
   clear H
   have p163 : 0 ≤ (x12_1 : Int) := of_decide_eq_true (by first | (with_reducible assumption) | assumption)
   have q163 : x12_1 < (l0_3.length : Int) := of_decide_eq_true (by first | (with_reducible assumption) | assumption)
   obtain ⟨Z9, e163, G0, G1⟩ := at_T28 E8.out x12_1 p163 q163
   cases e163
   replace G0 := (HB.out.cell (World.block_lt_of_cell? w _ G0)).trans G0
   replace G1 := (HB.out.cell (World.block_lt_of_cell? w _ G1)).trans G1
   replace p163 := eq_true p163
   replace q163 := eq_true q163
   go_wp2_with (first | ((with_reducible refine gate_dst (N := 5) rfl ?_); refine box_event ?hg (N := 5) ?hd (cs := #[.int .i64 0, .int .i64 0]) (t := 28) ?hr ?_; (case hd => rfl); (case hg => rfl); (case hr => first | (go_simp; done) | (go_simp; rfl)); intro J0 hg w15 hbox hb; have J1 := zg HB hg; have G7 := zg HB hg; have G2 := zn E0 hg; have Y7 := zn' E0 hg; have n0_ := Aside0.mk (hbox); replace E0 := zk E0 hb; replace HB := zb HB hb; have Y8 := n0_; clear n0_; clear hb hbox hg; have J2 := Y7.out; have J3 := G2.out; obtain ⟨J4, J5, J6, J7⟩ := zq2 Y8))
   first | go_roundg k1 | ((try subst E2); (try subst E7); (try subst E6); (try subst E5); go_roundg k1)
   case measure => have := HK1.out; omega
   case rel => first | (exact ⟨(E9), (wrap64 (x12_1 + 1)), (by first | rfl | (simp; done) | (simp only [← E2] <;> (first | rfl | simp)) | (simp [*]; done)), (by first | rfl | (simp; done) | (simp [*]; done)), H', ⟨by have := HK1.out; omega⟩, ⟨by exact zf E0 G2⟩, ⟨by exact zbo HB G7⟩⟩) | (exact ⟨((mx ((mx ((mx (E1) (wrap64 (-((rd_T28 l0_3 x12_1).f0))))) ((rd_T28 l0_3 x12_1).f1))) (wrap64 (-((rd_T28 l0_3 x12_1).f1))))), (wrap64 (x12_1 + 1)), (by first | rfl | (simp; done) | (simp only [← E2] <;> (first | rfl | simp)) | (simp [*]; done)), (by first | rfl | (simp; done) | (simp [*]; done)), H', ⟨by have := HK1.out; omega⟩, ⟨by exact zf E0 G2⟩, ⟨by exact zbo HB G7⟩⟩)
/-! ### rect_span: function 69 -/
def rect_span.f (a0 : Int) (a1 : Int) : Option (Bool) := if a0 ≥ (-1048576) then (if a0 ≤ 1048576 then (if a1 ≥ 0 then (some (decide (a1 ≤ (wrap64 (1048576 - a0))))) else (some false)) else (some false)) else (some false)
set_option maxHeartbeats 8000000 in
set_option maxRecDepth 100000 in
theorem rect_span.calls (a0 : Int) (a1 : Int) (r : Bool) (w : World) (h : rect_span.f a0 a1 = some r) :
  Calls Try.prog 69 #[.int .i64 a0, .int .i64 a1] w fun e w' => e = .returned (.bool r) ∧ Drawn0 w w' := by
 have H : (if a0 ≥ (-1048576) then (if a0 ≤ 1048576 then (if a1 ≥ 0 then (some (decide (a1 ≤ (wrap64 (1048576 - a0))))) else (some false)) else (some false)) else (some false)) = some r := h
 clear h
 by_cases c3 : a0 ≥ (-1048576)
 rotate_left
 ·rw [if_neg c3] at H
  have E0 : decide ((-1048576) ≤ a0) = false := decide_eq_false c3
  clear c3
  obtain rfl := Option.some.inj H
  go_enter Try.func69, Try.ntmps69
  go_wp2
  go_ret
  exact ⟨by first | rfl | (simp; done) | (simp [*]; done), by repeat (first | exact Drawn0.refl _ | apply Drawn0.step)⟩

 rw [if_pos c3] at H
 have E0 : decide ((-1048576) ≤ a0) = true := decide_eq_true c3
 clear c3
 by_cases c4 : a0 ≤ 1048576
 ·rw [if_pos c4] at H
  have E1 : decide (a0 ≤ 1048576) = true := decide_eq_true c4
  clear c4
  by_cases c5 : a1 ≥ 0
  ·rw [if_pos c5] at H
   have E2 : decide (0 ≤ a1) = true := decide_eq_true c5
   clear c5
   obtain rfl := Option.some.inj H
   go_enter Try.func69, Try.ntmps69
   go_wp2
   go_ret
   exact ⟨by first | rfl | (simp; done) | (simp [*]; done), by repeat (first | exact Drawn0.refl _ | apply Drawn0.step)⟩
  rw [if_neg c5] at H
  have E2 : decide (0 ≤ a1) = false := decide_eq_false c5
  clear c5
  obtain rfl := Option.some.inj H
  go_enter Try.func69, Try.ntmps69
  go_wp2
  go_ret
  exact ⟨by first | rfl | (simp; done) | (simp [*]; done), by repeat (first | exact Drawn0.refl _ | apply Drawn0.step)⟩
 rw [if_neg c4] at H
 have E1 : decide (a0 ≤ 1048576) = false := decide_eq_false c4
 clear c4
 obtain rfl := Option.some.inj H
 go_enter Try.func69, Try.ntmps69
 go_wp2
 go_ret
 exact ⟨by first | rfl | (simp; done) | (simp [*]; done), by repeat (first | exact Drawn0.refl _ | apply Drawn0.step)⟩
/-! ### rect_Valid: function 35 -/
def rect_Valid.f (a0_0 : Int) (a0_1 : Int) (a0_2 : Int) (a0_3 : Int) : Option (Bool) := (rect_span.f a0_0 a0_2).bind fun t178 => (if t178 = true then ((rect_span.f a0_1 a0_3).bind fun t179 => (some t179)) else (some false))
set_option maxHeartbeats 8000000 in
set_option maxRecDepth 100000 in
theorem rect_Valid.calls (a0_0 : Int) (a0_1 : Int) (a0_2 : Int) (a0_3 : Int) (r : Bool) (w : World) (h : rect_Valid.f a0_0 a0_1 a0_2 a0_3 = some r) :
  Calls Try.prog 35 #[.agg #[.int .i64 a0_0, .int .i64 a0_1, .int .i64 a0_2, .int .i64 a0_3]] w fun e w' => e = .returned (.bool r) ∧ Below w.heap.size w w' := by
 have hu34 := Try.underlying34
 have HB := Aside0.mk (Below.refl w.heap.size w)
 have H : ((rect_span.f a0_0 a0_2).bind fun t178 => (if t178 = true then ((rect_span.f a0_1 a0_3).bind fun t179 => (some t179)) else (some false))) = some r := h
 clear h
 replace H := Option.bind_eq_some_iff.mp H
 obtain ⟨t178, A20, H⟩ := H
 try dsimp only at H
 have A2 := Aside0.mk A20
 clear A20
 by_cases c3 : t178 = true
 ·subst c3
  rw [if_pos rfl] at H
  replace H := Option.bind_eq_some_iff.mp H
  obtain ⟨t179, A40, H⟩ := H
  try dsimp only at H
  have A4 := Aside0.mk A40
  clear A40
  obtain rfl := Option.some.inj H
  go_enter Try.func35, Try.ntmps35
  go_wp2_with (first | ((with_reducible refine gate_dst (N := 1) rfl ?_); refine box_event ?hg (N := 1) ?hd (cs := #[.int .i64 a0_0, .int .i64 a0_1, .int .i64 a0_2, .int .i64 a0_3]) (t := 34) ?hr ?_; (case hd => rfl); (case hg => rfl); (case hr => first | (go_simp; done) | (go_simp; rfl)); intro E1 hg w5 hbox hb; have E2 := zg HB hg; have E3 := zg HB hg; have n0_ := Aside0.mk (hbox); replace HB := zb HB hb; have E0 := n0_; clear n0_; clear hb hbox hg; obtain ⟨E4, E5, E6, E7, E8, E9, G0, G1⟩ := zq4 E0) | ((with_reducible refine gate_callee (f := 69) rfl ?_); refine goesL_ (some 7) rfl rfl Try.func69 (by kernel_rfl) rfl #[.int .i64 a0_0, .int .i64 a0_2] rfl (by (try simp only [List.map_toArray, List.map_cons, List.map_nil]); first | done | rfl | (simp only [List.length_drop, List.length_take]; rfl)) ?_; (with_reducible refine (rect_span.calls a0_0 a0_2 true _ A2.out).mono ?_); rintro e w' ⟨rfl, ⟨nd, rfl⟩⟩; refine ⟨_, rfl, ?_⟩) | (go_at_call 69; (with_reducible refine (rect_span.calls a0_1 a0_3 t179 _ A4.out).mono ?_); rintro e w' ⟨rfl, ⟨nd, rfl⟩⟩))
  go_ret
  exact ⟨by first | rfl | (simp [errW_none, errW_some] <;> rfl) | (simp [*, errW_none, errW_some] <;> rfl), by exact zb0 HB⟩
 replace c3 := Bool.eq_false_iff.mpr c3
 subst c3
 rw [if_neg (show ¬ (false = true) by decide)] at H
 obtain rfl := Option.some.inj H
 go_enter Try.func35, Try.ntmps35
 go_wp2_with (first | ((with_reducible refine gate_dst (N := 1) rfl ?_); refine box_event ?hg (N := 1) ?hd (cs := #[.int .i64 a0_0, .int .i64 a0_1, .int .i64 a0_2, .int .i64 a0_3]) (t := 34) ?hr ?_; (case hd => rfl); (case hg => rfl); (case hr => first | (go_simp; done) | (go_simp; rfl)); intro E1 hg w7 hbox hb; have E2 := zg HB hg; have E3 := zg HB hg; have n0_ := Aside0.mk (hbox); replace HB := zb HB hb; have E0 := n0_; clear n0_; clear hb hbox hg; obtain ⟨G2, G3, G4, G5, G6, G7, G8, G9⟩ := zq4 E0) | ((with_reducible refine gate_callee (f := 69) rfl ?_); refine goesL_ (some 7) rfl rfl Try.func69 (by kernel_rfl) rfl #[.int .i64 a0_0, .int .i64 a0_2] rfl (by (try simp only [List.map_toArray, List.map_cons, List.map_nil]); first | done | rfl | (simp only [List.length_drop, List.length_take]; rfl)) ?_; (with_reducible refine (rect_span.calls a0_0 a0_2 false _ A2.out).mono ?_); rintro e w' ⟨rfl, ⟨nd, rfl⟩⟩; refine ⟨_, rfl, ?_⟩))
 go_ret
 exact ⟨by first | rfl | (simp [errW_none, errW_some] <;> rfl) | (simp [*, errW_none, errW_some] <;> rfl), by exact zb0 HB⟩

/-! ### rect_known: function 62 -/
def rect_known.f (a0_0 : Int) (a0_1 : Int) (a0_2 : Int) (a0_3 : Int) : Option (Int × Int × Int × Int) := (rect_Valid.f a0_0 a0_1 a0_2 a0_3).bind fun t182 => (if t182 = true then (some (a0_0, a0_1, a0_2, a0_3)) else (some (0, 0, 0, 0)))
set_option maxHeartbeats 8000000 in
set_option maxRecDepth 100000 in
theorem rect_known.calls (a0_0 : Int) (a0_1 : Int) (a0_2 : Int) (a0_3 : Int) (r1 : Int) (r2 : Int) (r3 : Int) (r4 : Int) (w : World) (h : rect_known.f a0_0 a0_1 a0_2 a0_3 = some (r1, r2, r3, r4)) :
  Calls Try.prog 62 #[.agg #[.int .i64 a0_0, .int .i64 a0_1, .int .i64 a0_2, .int .i64 a0_3]] w fun e w' => e = .returned (.agg #[.int .i64 r1, .int .i64 r2, .int .i64 r3, .int .i64 r4]) ∧ Below w.heap.size w w' := by
 have hu34 := Try.underlying34
 have HB := Aside0.mk (Below.refl w.heap.size w)
 have H : ((rect_Valid.f a0_0 a0_1 a0_2 a0_3).bind fun t182 => (if t182 = true then (some (a0_0, a0_1, a0_2, a0_3)) else (some (0, 0, 0, 0)))) = some (r1, r2, r3, r4) := h
 clear h
 replace H := Option.bind_eq_some_iff.mp H
 obtain ⟨t182, A20, H⟩ := H
 try dsimp only at H
 have A2 := Aside0.mk A20
 clear A20
 by_cases c3 : t182 = true
 ·subst c3
  rw [if_pos rfl] at H
  simp only [Option.some.injEq, Prod.mk.injEq] at H
  obtain ⟨rfl, rfl, rfl, rfl⟩ := H
  go_enter Try.func62, Try.ntmps62
  go_wp2_with (first | ((with_reducible refine gate_dst (N := 1) rfl ?_); refine box_event ?hg (N := 1) ?hd (cs := #[.int .i64 a0_0, .int .i64 a0_1, .int .i64 a0_2, .int .i64 a0_3]) (t := 34) ?hr ?_; (case hd => rfl); (case hg => rfl); (case hr => first | (go_simp; done) | (go_simp; rfl)); intro E6 hg w4 hbox hb; have E7 := zg HB hg; have E8 := zg HB hg; have n0_ := Aside0.mk (hbox); replace HB := zb HB hb; have E0 := n0_; clear n0_; clear hb hbox hg) | ((with_reducible refine gate_dst (N := 2) rfl ?_); refine box_event ?hg (N := 2) ?hd (cs := #[.int .i64 0, .int .i64 0, .int .i64 0, .int .i64 0]) (t := 34) ?hr ?_; (case hd => rfl); (case hg => rfl); (case hr => first | (go_simp; done) | (go_simp; rfl)); intro E2 hg w5 hbox hb; have E9 := zg HB hg; have E3 := zg HB hg; have E4 := zn E0 hg; have E5 := zn' E0 hg; have n0_ := Aside0.mk (hbox); replace E0 := zk E0 hb; replace HB := zb HB hb; have E1 := n0_; clear n0_; clear hb hbox hg; have G0 := E4.out; have G1 := E5.out; obtain ⟨G2, G3, G4, G5, G6, G7, G8, G9⟩ := zq4 E0) | ((with_reducible refine gate_callee (f := 35) rfl ?_); refine goesL_ (some 4) rfl rfl Try.func35 (by kernel_rfl) rfl #[.agg #[.int .i64 a0_0, .int .i64 a0_1, .int .i64 a0_2, .int .i64 a0_3]] rfl (by (try simp only [List.map_toArray, List.map_cons, List.map_nil]); first | done | rfl | (simp only [List.length_drop, List.length_take]; rfl)) ?_; (with_reducible refine (rect_Valid.calls a0_0 a0_1 a0_2 a0_3 true _ A2.out).mono ?_); rintro e w8 ⟨rfl, hb⟩; refine ⟨_, rfl, ?_⟩; replace E0 := zk E0 hb; replace E1 := zk E1 hb; replace HB := zb HB hb; (try clear hb); obtain ⟨V0, V1, V2, V3, V4, V5, V6, V7⟩ := zq4 E0; obtain ⟨V8, V9, Y0, Y1, Y2, Y3, Y4, Y5⟩ := zq4 E1))
  refine bodyPost_ret (results_cell_row rfl _ _ E2 34 #[.int .i64 a0_0, .int .i64 a0_1, .int .i64 a0_2, .int .i64 a0_3] (0, 0) _ rfl (by exact zp E1 rfl) Try.underlying34 rfl (by kernel_rfl)) rfl ?_
  exact ⟨by first | rfl | (simp [errW_none, errW_some] <;> rfl) | (simp [*, errW_none, errW_some] <;> rfl), by exact zbo HB E3⟩
 replace c3 := Bool.eq_false_iff.mpr c3
 subst c3
 rw [if_neg (show ¬ (false = true) by decide)] at H
 simp only [Option.some.injEq, Prod.mk.injEq] at H
 obtain ⟨rfl, rfl, rfl, rfl⟩ := H
 go_enter Try.func62, Try.ntmps62
 go_wp2_with (first | ((with_reducible refine gate_dst (N := 1) rfl ?_); refine box_event ?hg (N := 1) ?hd (cs := #[.int .i64 a0_0, .int .i64 a0_1, .int .i64 a0_2, .int .i64 a0_3]) (t := 34) ?hr ?_; (case hd => rfl); (case hg => rfl); (case hr => first | (go_simp; done) | (go_simp; rfl)); intro E6 hg w11 hbox hb; have E7 := zg HB hg; have E8 := zg HB hg; have n0_ := Aside0.mk (hbox); replace HB := zb HB hb; have E0 := n0_; clear n0_; clear hb hbox hg) | ((with_reducible refine gate_dst (N := 2) rfl ?_); refine box_event ?hg (N := 2) ?hd (cs := #[.int .i64 0, .int .i64 0, .int .i64 0, .int .i64 0]) (t := 34) ?hr ?_; (case hd => rfl); (case hg => rfl); (case hr => first | (go_simp; done) | (go_simp; rfl)); intro E2 hg w12 hbox hb; have E9 := zg HB hg; have E3 := zg HB hg; have E4 := zn E0 hg; have E5 := zn' E0 hg; have n0_ := Aside0.mk (hbox); replace E0 := zk E0 hb; replace HB := zb HB hb; have E1 := n0_; clear n0_; clear hb hbox hg; have Y6 := E4.out; have Y7 := E5.out; obtain ⟨Y8, Y9, Z0, Z1, Z2, Z3, Z4, Z5⟩ := zq4 E0) | ((with_reducible refine gate_callee (f := 35) rfl ?_); refine goesL_ (some 4) rfl rfl Try.func35 (by kernel_rfl) rfl #[.agg #[.int .i64 a0_0, .int .i64 a0_1, .int .i64 a0_2, .int .i64 a0_3]] rfl (by (try simp only [List.map_toArray, List.map_cons, List.map_nil]); first | done | rfl | (simp only [List.length_drop, List.length_take]; rfl)) ?_; (with_reducible refine (rect_Valid.calls a0_0 a0_1 a0_2 a0_3 false _ A2.out).mono ?_); rintro e w15 ⟨rfl, hb⟩; refine ⟨_, rfl, ?_⟩; replace E0 := zk E0 hb; replace E1 := zk E1 hb; replace HB := zb HB hb; (try clear hb); obtain ⟨Z6, Z7, Z8, Z9, J0, J1, J2, J3⟩ := zq4 E1))
 refine bodyPost_ret (results_cell_row rfl _ _ E2 34 #[.int .i64 0, .int .i64 0, .int .i64 0, .int .i64 0] (0, 0) _ rfl (by exact zp E1 rfl) Try.underlying34 rfl (by kernel_rfl)) rfl ?_
 exact ⟨by first | rfl | (simp [errW_none, errW_some] <;> rfl) | (simp [*, errW_none, errW_some] <;> rfl), by exact zbo HB E3⟩

/-! ### rect_Empty: function 36 -/
def rect_Empty.f (a0_0 : Int) (a0_1 : Int) (a0_2 : Int) (a0_3 : Int) : Option (Bool) := (rect_known.f a0_0 a0_1 a0_2 a0_3).bind fun E1 => (if E1.2.2.1 = 0 then (some true) else (some (E1.2.2.2 == 0)))
set_option maxHeartbeats 8000000 in
set_option maxRecDepth 100000 in
theorem rect_Empty.calls (a0_0 : Int) (a0_1 : Int) (a0_2 : Int) (a0_3 : Int) (r : Bool) (w : World) (h : rect_Empty.f a0_0 a0_1 a0_2 a0_3 = some r) :
  Calls Try.prog 36 #[.agg #[.int .i64 a0_0, .int .i64 a0_1, .int .i64 a0_2, .int .i64 a0_3]] w fun e w' => e = .returned (.bool r) ∧ Below w.heap.size w w' := by
 have hu34 := Try.underlying34
 have HB := Aside0.mk (Below.refl w.heap.size w)
 have H : ((rect_known.f a0_0 a0_1 a0_2 a0_3).bind fun E1 => (if E1.2.2.1 = 0 then (some true) else (some (E1.2.2.2 == 0)))) = some r := h
 clear h
 replace H := Option.bind_eq_some_iff.mp H
 obtain ⟨⟨t184, t185, t186, t187⟩, A20, H⟩ := H
 try dsimp only at H
 have A2 := Aside0.mk A20
 clear A20
 by_cases c3 : t186 = 0
 ·rw [if_pos c3] at H
  have E3 : (t186 == 0) = true := beq_iff_eq.mpr c3
  have E4 : (t186 != 0) = false := bne_eq_false_iff_eq.mpr c3
  clear c3
  obtain rfl := Option.some.inj H
  go_enter Try.func36, Try.ntmps36
  go_wp2_with (first | ((with_reducible refine gate_dst (N := 1) rfl ?_); refine box_event ?hg (N := 1) ?hd (cs := #[.int .i64 a0_0, .int .i64 a0_1, .int .i64 a0_2, .int .i64 a0_3]) (t := 34) ?hr ?_; (case hd => rfl); (case hg => rfl); (case hr => first | (go_simp; done) | (go_simp; rfl)); intro E5 hg w4 hbox hb; have E6 := zg HB hg; have E2 := zg HB hg; have n0_ := Aside0.mk (hbox); replace HB := zb HB hb; have E0 := n0_; clear n0_; clear hb hbox hg; obtain ⟨E7, E8, E9, G0, G1, G2, G3, G4⟩ := zq4 E0) | ((with_reducible refine gate_callee (f := 62) rfl ?_); refine goesL_ (some 4) rfl rfl Try.func62 (by kernel_rfl) rfl #[.agg #[.int .i64 a0_0, .int .i64 a0_1, .int .i64 a0_2, .int .i64 a0_3]] rfl (by (try simp only [List.map_toArray, List.map_cons, List.map_nil]); first | done | rfl | (simp only [List.length_drop, List.length_take]; rfl)) ?_; (with_reducible refine (rect_known.calls a0_0 a0_1 a0_2 a0_3 t184 t185 t186 t187 _ A2.out).mono ?_); rintro e w6 ⟨rfl, hb⟩; refine ⟨_, rfl, ?_⟩; replace E0 := zk E0 hb; replace HB := zb HB hb; (try clear hb); obtain ⟨G5, G6, G7, G8, G9, V0, V1, V2⟩ := zq4 E0))
  go_ret
  exact ⟨by first | rfl | (simp [errW_none, errW_some] <;> rfl) | (simp [*, errW_none, errW_some] <;> rfl), by exact zbo HB E2⟩
 rw [if_neg c3] at H
 have E3 : (t186 == 0) = false := beq_eq_false_iff_ne.mpr c3
 have E4 : (t186 != 0) = true := bne_iff_ne.mpr c3
 obtain rfl := Option.some.inj H
 go_enter Try.func36, Try.ntmps36
 go_wp2_with (first | ((with_reducible refine gate_dst (N := 1) rfl ?_); refine box_event ?hg (N := 1) ?hd (cs := #[.int .i64 a0_0, .int .i64 a0_1, .int .i64 a0_2, .int .i64 a0_3]) (t := 34) ?hr ?_; (case hd => rfl); (case hg => rfl); (case hr => first | (go_simp; done) | (go_simp; rfl)); intro E5 hg w8 hbox hb; have E6 := zg HB hg; have E2 := zg HB hg; have n0_ := Aside0.mk (hbox); replace HB := zb HB hb; have E0 := n0_; clear n0_; clear hb hbox hg; obtain ⟨V3, V4, V5, V6, V7, V8, V9, Y0⟩ := zq4 E0) | ((with_reducible refine gate_callee (f := 62) rfl ?_); refine goesL_ (some 4) rfl rfl Try.func62 (by kernel_rfl) rfl #[.agg #[.int .i64 a0_0, .int .i64 a0_1, .int .i64 a0_2, .int .i64 a0_3]] rfl (by (try simp only [List.map_toArray, List.map_cons, List.map_nil]); first | done | rfl | (simp only [List.length_drop, List.length_take]; rfl)) ?_; (with_reducible refine (rect_known.calls a0_0 a0_1 a0_2 a0_3 t184 t185 t186 t187 _ A2.out).mono ?_); rintro e w10 ⟨rfl, hb⟩; refine ⟨_, rfl, ?_⟩; replace E0 := zk E0 hb; replace HB := zb HB hb; (try clear hb); obtain ⟨Y1, Y2, Y3, Y4, Y5, Y6, Y7, Y8⟩ := zq4 E0))
 go_ret
 exact ⟨by first | rfl | (simp [errW_none, errW_some] <;> rfl) | (simp [*, errW_none, errW_some] <;> rfl), by exact zbo HB E2⟩

/-! ### rect_Within: function 25 -/
def rect_Within.f (a0_0 : Int) (a0_1 : Int) (a0_2 : Int) (a0_3 : Int) (a1_0 : Int) (a1_1 : Int) (a1_2 : Int) (a1_3 : Int) : Option (Bool) := (rect_Empty.f a0_0 a0_1 a0_2 a0_3).bind fun t190 => (if t190 = true then (some true) else ((rect_known.f a1_0 a1_1 a1_2 a1_3).bind fun E2 => (if a0_0 ≥ E2.1 then (if a0_1 ≥ E2.2.1 then (if (wrap64 (a0_0 + a0_2)) ≤ (wrap64 (E2.1 + E2.2.2.1)) then (some (decide ((wrap64 (a0_1 + a0_3)) ≤ (wrap64 (E2.2.1 + E2.2.2.2))))) else (some false)) else (some false)) else (some false))))
set_option maxHeartbeats 8000000 in
set_option maxRecDepth 100000 in
theorem rect_Within.calls (a0_0 : Int) (a0_1 : Int) (a0_2 : Int) (a0_3 : Int) (a1_0 : Int) (a1_1 : Int) (a1_2 : Int) (a1_3 : Int) (r : Bool) (w : World) (h : rect_Within.f a0_0 a0_1 a0_2 a0_3 a1_0 a1_1 a1_2 a1_3 = some r) :
  Calls Try.prog 25 #[.agg #[.int .i64 a0_0, .int .i64 a0_1, .int .i64 a0_2, .int .i64 a0_3], .agg #[.int .i64 a1_0, .int .i64 a1_1, .int .i64 a1_2, .int .i64 a1_3]] w fun e w' => e = .returned (.bool r) ∧ Below w.heap.size w w' := by
 have hu34 := Try.underlying34
 have HB := Aside0.mk (Below.refl w.heap.size w)
 have H : ((rect_Empty.f a0_0 a0_1 a0_2 a0_3).bind fun t190 => (if t190 = true then (some true) else ((rect_known.f a1_0 a1_1 a1_2 a1_3).bind fun E2 => (if a0_0 ≥ E2.1 then (if a0_1 ≥ E2.2.1 then (if (wrap64 (a0_0 + a0_2)) ≤ (wrap64 (E2.1 + E2.2.2.1)) then (some (decide ((wrap64 (a0_1 + a0_3)) ≤ (wrap64 (E2.2.1 + E2.2.2.2))))) else (some false)) else (some false)) else (some false))))) = some r := h
 clear h
 replace H := Option.bind_eq_some_iff.mp H
 obtain ⟨t190, A30, H⟩ := H
 try dsimp only at H
 have A3 := Aside0.mk A30
 clear A30
 by_cases c4 : t190 = true
 ·subst c4
  rw [if_pos rfl] at H
  obtain rfl := Option.some.inj H
  go_enter Try.func25, Try.ntmps25
  go_wp2_with (first | ((with_reducible refine gate_dst (N := 2) rfl ?_); refine box_event ?hg (N := 2) ?hd (cs := #[.int .i64 a0_0, .int .i64 a0_1, .int .i64 a0_2, .int .i64 a0_3]) (t := 34) ?hr ?_; (case hd => rfl); (case hg => rfl); (case hr => first | (go_simp; done) | (go_simp; rfl)); intro E6 hg w5 hbox hb; have E7 := zg HB hg; have E8 := zg HB hg; have n0_ := Aside0.mk (hbox); replace HB := zb HB hb; have E0 := n0_; clear n0_; clear hb hbox hg) | ((with_reducible refine gate_dst (N := 3) rfl ?_); refine box_event ?hg (N := 3) ?hd (cs := #[.int .i64 a1_0, .int .i64 a1_1, .int .i64 a1_2, .int .i64 a1_3]) (t := 34) ?hr ?_; (case hd => rfl); (case hg => rfl); (case hr => first | (go_simp; done) | (go_simp; rfl)); intro E9 hg w6 hbox hb; have G0 := zg HB hg; have E3 := zg HB hg; have E4 := zn E0 hg; have E5 := zn' E0 hg; have n0_ := Aside0.mk (hbox); replace E0 := zk E0 hb; replace HB := zb HB hb; have E1 := n0_; clear n0_; clear hb hbox hg; obtain ⟨G4, G5, G6, G7, G8, G9, V0, V1⟩ := zq4 E0) | ((with_reducible refine gate_callee (f := 36) rfl ?_); refine goesL_ (some 6) rfl rfl Try.func36 (by kernel_rfl) rfl #[.agg #[.int .i64 a0_0, .int .i64 a0_1, .int .i64 a0_2, .int .i64 a0_3]] rfl (by (try simp only [List.map_toArray, List.map_cons, List.map_nil]); first | done | rfl | (simp only [List.length_drop, List.length_take]; rfl)) ?_; (with_reducible refine (rect_Empty.calls a0_0 a0_1 a0_2 a0_3 true _ A3.out).mono ?_); rintro e w8 ⟨rfl, hb⟩; refine ⟨_, rfl, ?_⟩; replace E0 := zk E0 hb; replace E1 := zk E1 hb; replace HB := zb HB hb; (try clear hb)))
  go_ret
  exact ⟨by first | rfl | (simp [errW_none, errW_some] <;> rfl) | (simp [*, errW_none, errW_some] <;> rfl), by exact zb0 HB⟩
 replace c4 := Bool.eq_false_iff.mpr c4
 subst c4
 rw [if_neg (show ¬ (false = true) by decide)] at H
 replace H := Option.bind_eq_some_iff.mp H
 obtain ⟨⟨t191, t192, t193, t194⟩, A90, H⟩ := H
 try dsimp only at H
 have A9 := Aside0.mk A90
 clear A90
 by_cases c10 : a0_0 ≥ t191
 rotate_left
 ·rw [if_neg c10] at H
  have G1 : decide (t191 ≤ a0_0) = false := decide_eq_false c10
  clear c10
  obtain rfl := Option.some.inj H
  go_enter Try.func25, Try.ntmps25
  go_wp2_with (first | ((with_reducible refine gate_dst (N := 2) rfl ?_); refine box_event ?hg (N := 2) ?hd (cs := #[.int .i64 a0_0, .int .i64 a0_1, .int .i64 a0_2, .int .i64 a0_3]) (t := 34) ?hr ?_; (case hd => rfl); (case hg => rfl); (case hr => first | (go_simp; done) | (go_simp; rfl)); intro E6 hg w40 hbox hb; have E7 := zg HB hg; have E8 := zg HB hg; have n0_ := Aside0.mk (hbox); replace HB := zb HB hb; have E0 := n0_; clear n0_; clear hb hbox hg) | ((with_reducible refine gate_dst (N := 3) rfl ?_); refine box_event ?hg (N := 3) ?hd (cs := #[.int .i64 a1_0, .int .i64 a1_1, .int .i64 a1_2, .int .i64 a1_3]) (t := 34) ?hr ?_; (case hd => rfl); (case hg => rfl); (case hr => first | (go_simp; done) | (go_simp; rfl)); intro E9 hg w41 hbox hb; have G0 := zg HB hg; have E3 := zg HB hg; have E4 := zn E0 hg; have E5 := zn' E0 hg; have n0_ := Aside0.mk (hbox); replace E0 := zk E0 hb; replace HB := zb HB hb; have E1 := n0_; clear n0_; clear hb hbox hg; have V2 := E4.out; have V3 := E5.out; obtain ⟨V4, V5, V6, V7, V8, V9, Y0, Y1⟩ := zq4 E0) | ((with_reducible refine gate_callee (f := 36) rfl ?_); refine goesL_ (some 6) rfl rfl Try.func36 (by kernel_rfl) rfl #[.agg #[.int .i64 a0_0, .int .i64 a0_1, .int .i64 a0_2, .int .i64 a0_3]] rfl (by (try simp only [List.map_toArray, List.map_cons, List.map_nil]); first | done | rfl | (simp only [List.length_drop, List.length_take]; rfl)) ?_; (with_reducible refine (rect_Empty.calls a0_0 a0_1 a0_2 a0_3 false _ A3.out).mono ?_); rintro e w44 ⟨rfl, hb⟩; refine ⟨_, rfl, ?_⟩; replace E0 := zk E0 hb; replace E1 := zk E1 hb; replace HB := zb HB hb; (try clear hb); obtain ⟨Y2, Y3, Y4, Y5, Y6, Y7, Y8, Y9⟩ := zq4 E1) | ((with_reducible refine gate_callee (f := 62) rfl ?_); refine goesL_ (some 8) rfl rfl Try.func62 (by kernel_rfl) rfl #[.agg #[.int .i64 a1_0, .int .i64 a1_1, .int .i64 a1_2, .int .i64 a1_3]] rfl (by (try simp only [List.map_toArray, List.map_cons, List.map_nil]); first | done | rfl | (simp only [List.length_drop, List.length_take]; rfl)) ?_; (with_reducible refine (rect_known.calls a1_0 a1_1 a1_2 a1_3 t191 t192 t193 t194 _ A9.out).mono ?_); rintro e w46 ⟨rfl, hb⟩; refine ⟨_, rfl, ?_⟩; replace E0 := zk E0 hb; replace E1 := zk E1 hb; replace HB := zb HB hb; (try clear hb); obtain ⟨Z0, Z1, Z2, Z3, Z4, Z5, Z6, Z7⟩ := zq4 E1; obtain ⟨Z8, Z9, J0, J1, J2, J3, J4, J5⟩ := zq4 E0))
  go_ret
  exact ⟨by first | rfl | (simp [errW_none, errW_some] <;> rfl) | (simp [*, errW_none, errW_some] <;> rfl), by exact zbo HB E3⟩

 rw [if_pos c10] at H
 have G1 : decide (t191 ≤ a0_0) = true := decide_eq_true c10
 clear c10
 by_cases c11 : a0_1 ≥ t192
 ·rw [if_pos c11] at H
  have G2 : decide (t192 ≤ a0_1) = true := decide_eq_true c11
  clear c11
  by_cases c12 : (wrap64 (a0_0 + a0_2)) ≤ (wrap64 (t191 + t193))
  ·rw [if_pos c12] at H
   have G3 : decide ((wrap64 (a0_0 + a0_2)) ≤ (wrap64 (t191 + t193))) = true := decide_eq_true c12
   clear c12
   obtain rfl := Option.some.inj H
   go_enter Try.func25, Try.ntmps25
   go_wp2_with (first | ((with_reducible refine gate_dst (N := 2) rfl ?_); refine box_event ?hg (N := 2) ?hd (cs := #[.int .i64 a0_0, .int .i64 a0_1, .int .i64 a0_2, .int .i64 a0_3]) (t := 34) ?hr ?_; (case hd => rfl); (case hg => rfl); (case hr => first | (go_simp; done) | (go_simp; rfl)); intro E6 hg w13 hbox hb; have E7 := zg HB hg; have E8 := zg HB hg; have n0_ := Aside0.mk (hbox); replace HB := zb HB hb; have E0 := n0_; clear n0_; clear hb hbox hg) | ((with_reducible refine gate_dst (N := 3) rfl ?_); refine box_event ?hg (N := 3) ?hd (cs := #[.int .i64 a1_0, .int .i64 a1_1, .int .i64 a1_2, .int .i64 a1_3]) (t := 34) ?hr ?_; (case hd => rfl); (case hg => rfl); (case hr => first | (go_simp; done) | (go_simp; rfl)); intro E9 hg w14 hbox hb; have G0 := zg HB hg; have E3 := zg HB hg; have E4 := zn E0 hg; have E5 := zn' E0 hg; have n0_ := Aside0.mk (hbox); replace E0 := zk E0 hb; replace HB := zb HB hb; have E1 := n0_; clear n0_; clear hb hbox hg; have J6 := E4.out; have J7 := E5.out; obtain ⟨J8, J9, L0, L1, L2, L3, L4, L5⟩ := zq4 E0) | ((with_reducible refine gate_callee (f := 36) rfl ?_); refine goesL_ (some 6) rfl rfl Try.func36 (by kernel_rfl) rfl #[.agg #[.int .i64 a0_0, .int .i64 a0_1, .int .i64 a0_2, .int .i64 a0_3]] rfl (by (try simp only [List.map_toArray, List.map_cons, List.map_nil]); first | done | rfl | (simp only [List.length_drop, List.length_take]; rfl)) ?_; (with_reducible refine (rect_Empty.calls a0_0 a0_1 a0_2 a0_3 false _ A3.out).mono ?_); rintro e w17 ⟨rfl, hb⟩; refine ⟨_, rfl, ?_⟩; replace E0 := zk E0 hb; replace E1 := zk E1 hb; replace HB := zb HB hb; (try clear hb); obtain ⟨L6, L7, L8, L9, Q0, Q1, Q2, Q3⟩ := zq4 E1) | ((with_reducible refine gate_callee (f := 62) rfl ?_); refine goesL_ (some 8) rfl rfl Try.func62 (by kernel_rfl) rfl #[.agg #[.int .i64 a1_0, .int .i64 a1_1, .int .i64 a1_2, .int .i64 a1_3]] rfl (by (try simp only [List.map_toArray, List.map_cons, List.map_nil]); first | done | rfl | (simp only [List.length_drop, List.length_take]; rfl)) ?_; (with_reducible refine (rect_known.calls a1_0 a1_1 a1_2 a1_3 t191 t192 t193 t194 _ A9.out).mono ?_); rintro e w19 ⟨rfl, hb⟩; refine ⟨_, rfl, ?_⟩; replace E0 := zk E0 hb; replace E1 := zk E1 hb; replace HB := zb HB hb; (try clear hb); obtain ⟨Q4, Q5, Q6, Q7, Q8, Q9, E0a, E0b⟩ := zq4 E1; obtain ⟨E0c, E0d, E0e, E0f, E0g, E0h, E0i, E0j⟩ := zq4 E0))
   go_ret
   exact ⟨by first | rfl | (simp [errW_none, errW_some] <;> rfl) | (simp [*, errW_none, errW_some] <;> rfl), by exact zbo HB E3⟩
  rw [if_neg c12] at H
  have G3 : decide ((wrap64 (a0_0 + a0_2)) ≤ (wrap64 (t191 + t193))) = false := decide_eq_false c12
  clear c12
  obtain rfl := Option.some.inj H
  go_enter Try.func25, Try.ntmps25
  go_wp2_with (first | ((with_reducible refine gate_dst (N := 2) rfl ?_); refine box_event ?hg (N := 2) ?hd (cs := #[.int .i64 a0_0, .int .i64 a0_1, .int .i64 a0_2, .int .i64 a0_3]) (t := 34) ?hr ?_; (case hd => rfl); (case hg => rfl); (case hr => first | (go_simp; done) | (go_simp; rfl)); intro E6 hg w22 hbox hb; have E7 := zg HB hg; have E8 := zg HB hg; have n0_ := Aside0.mk (hbox); replace HB := zb HB hb; have E0 := n0_; clear n0_; clear hb hbox hg) | ((with_reducible refine gate_dst (N := 3) rfl ?_); refine box_event ?hg (N := 3) ?hd (cs := #[.int .i64 a1_0, .int .i64 a1_1, .int .i64 a1_2, .int .i64 a1_3]) (t := 34) ?hr ?_; (case hd => rfl); (case hg => rfl); (case hr => first | (go_simp; done) | (go_simp; rfl)); intro E9 hg w23 hbox hb; have G0 := zg HB hg; have E3 := zg HB hg; have E4 := zn E0 hg; have E5 := zn' E0 hg; have n0_ := Aside0.mk (hbox); replace E0 := zk E0 hb; replace HB := zb HB hb; have E1 := n0_; clear n0_; clear hb hbox hg; have E0k := E4.out; have E0l := E5.out; obtain ⟨E0m, E0n, E0o, E0p, E0q, E0r, E0s, E0t⟩ := zq4 E0) | ((with_reducible refine gate_callee (f := 36) rfl ?_); refine goesL_ (some 6) rfl rfl Try.func36 (by kernel_rfl) rfl #[.agg #[.int .i64 a0_0, .int .i64 a0_1, .int .i64 a0_2, .int .i64 a0_3]] rfl (by (try simp only [List.map_toArray, List.map_cons, List.map_nil]); first | done | rfl | (simp only [List.length_drop, List.length_take]; rfl)) ?_; (with_reducible refine (rect_Empty.calls a0_0 a0_1 a0_2 a0_3 false _ A3.out).mono ?_); rintro e w26 ⟨rfl, hb⟩; refine ⟨_, rfl, ?_⟩; replace E0 := zk E0 hb; replace E1 := zk E1 hb; replace HB := zb HB hb; (try clear hb); obtain ⟨E0u, E0v, E0w, E0x, E0y, E0z, E0A, E0B⟩ := zq4 E1) | ((with_reducible refine gate_callee (f := 62) rfl ?_); refine goesL_ (some 8) rfl rfl Try.func62 (by kernel_rfl) rfl #[.agg #[.int .i64 a1_0, .int .i64 a1_1, .int .i64 a1_2, .int .i64 a1_3]] rfl (by (try simp only [List.map_toArray, List.map_cons, List.map_nil]); first | done | rfl | (simp only [List.length_drop, List.length_take]; rfl)) ?_; (with_reducible refine (rect_known.calls a1_0 a1_1 a1_2 a1_3 t191 t192 t193 t194 _ A9.out).mono ?_); rintro e w28 ⟨rfl, hb⟩; refine ⟨_, rfl, ?_⟩; replace E0 := zk E0 hb; replace E1 := zk E1 hb; replace HB := zb HB hb; (try clear hb); obtain ⟨E0C, E0D, E0E, E0F, E0G, E0H, E0I, E0J⟩ := zq4 E1; obtain ⟨E0K, E0L, E0M, E0N, E0O, E0P, E0Q, E0R⟩ := zq4 E0))
  go_ret
  exact ⟨by first | rfl | (simp [errW_none, errW_some] <;> rfl) | (simp [*, errW_none, errW_some] <;> rfl), by exact zbo HB E3⟩
 rw [if_neg c11] at H
 have G2 : decide (t192 ≤ a0_1) = false := decide_eq_false c11
 clear c11
 obtain rfl := Option.some.inj H
 go_enter Try.func25, Try.ntmps25
 go_wp2_with (first | ((with_reducible refine gate_dst (N := 2) rfl ?_); refine box_event ?hg (N := 2) ?hd (cs := #[.int .i64 a0_0, .int .i64 a0_1, .int .i64 a0_2, .int .i64 a0_3]) (t := 34) ?hr ?_; (case hd => rfl); (case hg => rfl); (case hr => first | (go_simp; done) | (go_simp; rfl)); intro E6 hg w31 hbox hb; have E7 := zg HB hg; have E8 := zg HB hg; have n0_ := Aside0.mk (hbox); replace HB := zb HB hb; have E0 := n0_; clear n0_; clear hb hbox hg) | ((with_reducible refine gate_dst (N := 3) rfl ?_); refine box_event ?hg (N := 3) ?hd (cs := #[.int .i64 a1_0, .int .i64 a1_1, .int .i64 a1_2, .int .i64 a1_3]) (t := 34) ?hr ?_; (case hd => rfl); (case hg => rfl); (case hr => first | (go_simp; done) | (go_simp; rfl)); intro E9 hg w32 hbox hb; have G0 := zg HB hg; have E3 := zg HB hg; have E4 := zn E0 hg; have E5 := zn' E0 hg; have n0_ := Aside0.mk (hbox); replace E0 := zk E0 hb; replace HB := zb HB hb; have E1 := n0_; clear n0_; clear hb hbox hg; have E0S := E4.out; have E0T := E5.out; obtain ⟨E0U, E0V, E0W, E0X, E0Y, E0Z, E1a, E1b⟩ := zq4 E0) | ((with_reducible refine gate_callee (f := 36) rfl ?_); refine goesL_ (some 6) rfl rfl Try.func36 (by kernel_rfl) rfl #[.agg #[.int .i64 a0_0, .int .i64 a0_1, .int .i64 a0_2, .int .i64 a0_3]] rfl (by (try simp only [List.map_toArray, List.map_cons, List.map_nil]); first | done | rfl | (simp only [List.length_drop, List.length_take]; rfl)) ?_; (with_reducible refine (rect_Empty.calls a0_0 a0_1 a0_2 a0_3 false _ A3.out).mono ?_); rintro e w35 ⟨rfl, hb⟩; refine ⟨_, rfl, ?_⟩; replace E0 := zk E0 hb; replace E1 := zk E1 hb; replace HB := zb HB hb; (try clear hb); obtain ⟨E1c, E1d, E1e, E1f, E1g, E1h, E1i, E1j⟩ := zq4 E1) | ((with_reducible refine gate_callee (f := 62) rfl ?_); refine goesL_ (some 8) rfl rfl Try.func62 (by kernel_rfl) rfl #[.agg #[.int .i64 a1_0, .int .i64 a1_1, .int .i64 a1_2, .int .i64 a1_3]] rfl (by (try simp only [List.map_toArray, List.map_cons, List.map_nil]); first | done | rfl | (simp only [List.length_drop, List.length_take]; rfl)) ?_; (with_reducible refine (rect_known.calls a1_0 a1_1 a1_2 a1_3 t191 t192 t193 t194 _ A9.out).mono ?_); rintro e w37 ⟨rfl, hb⟩; refine ⟨_, rfl, ?_⟩; replace E0 := zk E0 hb; replace E1 := zk E1 hb; replace HB := zb HB hb; (try clear hb); obtain ⟨E1k, E1l, E1m, E1n, E1o, E1p, E1q, E1r⟩ := zq4 E1; obtain ⟨E1s, E1t, E1u, E1v, E1w, E1x, E1y, E1z⟩ := zq4 E0))
 go_ret
 exact ⟨by first | rfl | (simp [errW_none, errW_some] <;> rfl) | (simp [*, errW_none, errW_some] <;> rfl), by exact zbo HB E3⟩
/-! ### kernel_Valid: function 34 -/
def kernel_Valid.f (a0 : Int) : Option (Bool) := if a0 ≥ 0 then (some (decide (a0 ≤ 4))) else (some false)
set_option maxHeartbeats 8000000 in
set_option maxRecDepth 100000 in
theorem kernel_Valid.calls (a0 : Int) (r : Bool) (w : World) (h : kernel_Valid.f a0 = some r) :
  Calls Try.prog 34 #[.int .i64 a0] w fun e w' => e = .returned (.bool r) ∧ Drawn0 w w' := by
 have H : (if a0 ≥ 0 then (some (decide (a0 ≤ 4))) else (some false)) = some r := h
 clear h
 by_cases c2 : a0 ≥ 0
 ·rw [if_pos c2] at H
  have E0 : decide (0 ≤ a0) = true := decide_eq_true c2
  clear c2
  obtain rfl := Option.some.inj H
  go_enter Try.func34, Try.ntmps34
  go_wp2
  go_ret
  exact ⟨by first | rfl | (simp; done) | (simp [*]; done), by repeat (first | exact Drawn0.refl _ | apply Drawn0.step)⟩
 rw [if_neg c2] at H
 have E0 : decide (0 ≤ a0) = false := decide_eq_false c2
 clear c2
 obtain rfl := Option.some.inj H
 go_enter Try.func34, Try.ntmps34
 go_wp2
 go_ret
 exact ⟨by first | rfl | (simp; done) | (simp [*]; done), by repeat (first | exact Drawn0.refl _ | apply Drawn0.step)⟩

/-! ### rect_between: function 88 -/
def rect_between.f (a0 : Int) (a1 : Int) (a2 : Int) (a3 : Int) : Option (Int × Int × Int × Int) := if a0 ≥ a2 then (some (0, 0, 0, 0)) else (if a1 ≥ a3 then (some (0, 0, 0, 0)) else (some (a0, a1, wrap64 (a2 - a0), wrap64 (a3 - a1))))
set_option maxHeartbeats 8000000 in
set_option maxRecDepth 100000 in
theorem rect_between.calls (a0 : Int) (a1 : Int) (a2 : Int) (a3 : Int) (r1 : Int) (r2 : Int) (r3 : Int) (r4 : Int) (w : World) (h : rect_between.f a0 a1 a2 a3 = some (r1, r2, r3, r4)) :
  Calls Try.prog 88 #[.int .i64 a0, .int .i64 a1, .int .i64 a2, .int .i64 a3] w fun e w' => e = .returned (.agg #[.int .i64 r1, .int .i64 r2, .int .i64 r3, .int .i64 r4]) ∧ Below w.heap.size w w' := by
 have hu34 := Try.underlying34
 have HB := Aside0.mk (Below.refl w.heap.size w)
 have H : (if a0 ≥ a2 then (some (0, 0, 0, 0)) else (if a1 ≥ a3 then (some (0, 0, 0, 0)) else (some (a0, a1, wrap64 (a2 - a0), wrap64 (a3 - a1))))) = some (r1, r2, r3, r4) := h
 clear h
 by_cases c5 : a0 ≥ a2
 ·rw [if_pos c5] at H
  have E4 : decide (a2 ≤ a0) = true := decide_eq_true c5
  clear c5
  simp only [Option.some.injEq, Prod.mk.injEq] at H
  obtain ⟨rfl, rfl, rfl, rfl⟩ := H
  go_enter Try.func88, Try.ntmps88
  go_wp2_with (first | ((with_reducible refine gate_dst (N := 8) rfl ?_); refine box_event ?hg (N := 8) ?hd (cs := #[.int .i64 0, .int .i64 0, .int .i64 0, .int .i64 0]) (t := 34) ?hr ?_; (case hd => rfl); (case hg => rfl); (case hr => first | (go_simp; done) | (go_simp; rfl)); intro E1 hg w6 hbox hb; have E3 := zg HB hg; have E2 := zg HB hg; have n0_ := Aside0.mk (hbox); replace HB := zb HB hb; have E0 := n0_; clear n0_; clear hb hbox hg; obtain ⟨E6, E7, E8, E9, G0, G1, G2, G3⟩ := zq4 E0))
  refine bodyPost_ret (results_cell_row rfl _ _ E1 34 #[.int .i64 0, .int .i64 0, .int .i64 0, .int .i64 0] (0, 0) _ rfl (by exact zp E0 rfl) Try.underlying34 rfl (by kernel_rfl)) rfl ?_
  exact ⟨by first | rfl | (simp [errW_none, errW_some] <;> rfl) | (simp [*, errW_none, errW_some] <;> rfl), by exact zbo HB E2⟩
 rw [if_neg c5] at H
 have E4 : decide (a2 ≤ a0) = false := decide_eq_false c5
 clear c5
 by_cases c8 : a1 ≥ a3
 ·rw [if_pos c8] at H
  have E5 : decide (a3 ≤ a1) = true := decide_eq_true c8
  clear c8
  simp only [Option.some.injEq, Prod.mk.injEq] at H
  obtain ⟨rfl, rfl, rfl, rfl⟩ := H
  go_enter Try.func88, Try.ntmps88
  go_wp2_with (first | ((with_reducible refine gate_dst (N := 8) rfl ?_); refine box_event ?hg (N := 8) ?hd (cs := #[.int .i64 0, .int .i64 0, .int .i64 0, .int .i64 0]) (t := 34) ?hr ?_; (case hd => rfl); (case hg => rfl); (case hr => first | (go_simp; done) | (go_simp; rfl)); intro E1 hg w9 hbox hb; have E3 := zg HB hg; have E2 := zg HB hg; have n0_ := Aside0.mk (hbox); replace HB := zb HB hb; have E0 := n0_; clear n0_; clear hb hbox hg; obtain ⟨G4, G5, G6, G7, G8, G9, V0, V1⟩ := zq4 E0))
  refine bodyPost_ret (results_cell_row rfl _ _ E1 34 #[.int .i64 0, .int .i64 0, .int .i64 0, .int .i64 0] (0, 0) _ rfl (by exact zp E0 rfl) Try.underlying34 rfl (by kernel_rfl)) rfl ?_
  exact ⟨by first | rfl | (simp [errW_none, errW_some] <;> rfl) | (simp [*, errW_none, errW_some] <;> rfl), by exact zbo HB E2⟩
 rw [if_neg c8] at H
 have E5 : decide (a3 ≤ a1) = false := decide_eq_false c8
 clear c8
 simp only [Option.some.injEq, Prod.mk.injEq] at H
 obtain ⟨rfl, rfl, rfl, rfl⟩ := H
 go_enter Try.func88, Try.ntmps88
 go_wp2_with (first | ((with_reducible refine gate_dst (N := 8) rfl ?_); refine box_event ?hg (N := 8) ?hd (cs := #[.int .i64 0, .int .i64 0, .int .i64 0, .int .i64 0]) (t := 34) ?hr ?_; (case hd => rfl); (case hg => rfl); (case hr => first | (go_simp; done) | (go_simp; rfl)); intro E1 hg w11 hbox hb; have E3 := zg HB hg; have E2 := zg HB hg; have n0_ := Aside0.mk (hbox); replace HB := zb HB hb; have E0 := n0_; clear n0_; clear hb hbox hg; obtain ⟨V2, V3, V4, V5, V6, V7, V8, V9⟩ := zq4 E0))
 refine bodyPost_ret (results_cell_row rfl _ _ E1 34 #[.int .i64 a0, .int .i64 a1, .int .i64 (wrap64 (a2 - a0)), .int .i64 (wrap64 (a3 - a1))] (0, 0) _ rfl (by exact zp E0 rfl) Try.underlying34 rfl (by kernel_rfl)) rfl ?_
 exact ⟨by first | rfl | (simp [errW_none, errW_some] <;> rfl) | (simp [*, errW_none, errW_some] <;> rfl), by exact zbo HB E2⟩

/-! ### rect_meet: function 70 -/
def rect_meet.f (a0_0 : Int) (a0_1 : Int) (a0_2 : Int) (a0_3 : Int) (a1_0 : Int) (a1_1 : Int) (a1_2 : Int) (a1_3 : Int) : Option (Int × Int × Int × Int) := (rect_between.f (mx a0_0 a1_0) (mx a0_1 a1_1) (mn (wrap64 (a0_0 + a0_2)) (wrap64 (a1_0 + a1_2))) (mn (wrap64 (a0_1 + a0_3)) (wrap64 (a1_1 + a1_3)))).bind fun E0 => (some (E0.1, E0.2.1, E0.2.2.1, E0.2.2.2))
set_option maxHeartbeats 8000000 in
set_option maxRecDepth 100000 in
theorem rect_meet.calls (a0_0 : Int) (a0_1 : Int) (a0_2 : Int) (a0_3 : Int) (a1_0 : Int) (a1_1 : Int) (a1_2 : Int) (a1_3 : Int) (r1 : Int) (r2 : Int) (r3 : Int) (r4 : Int) (w : World) (h : rect_meet.f a0_0 a0_1 a0_2 a0_3 a1_0 a1_1 a1_2 a1_3 = some (r1, r2, r3, r4)) :
  Calls Try.prog 70 #[.agg #[.int .i64 a0_0, .int .i64 a0_1, .int .i64 a0_2, .int .i64 a0_3], .agg #[.int .i64 a1_0, .int .i64 a1_1, .int .i64 a1_2, .int .i64 a1_3]] w fun e w' => e = .returned (.agg #[.int .i64 r1, .int .i64 r2, .int .i64 r3, .int .i64 r4]) ∧ Below w.heap.size w w' := by
 have hu34 := Try.underlying34
 have HB := Aside0.mk (Below.refl w.heap.size w)
 have H : ((rect_between.f (mx a0_0 a1_0) (mx a0_1 a1_1) (mn (wrap64 (a0_0 + a0_2)) (wrap64 (a1_0 + a1_2))) (mn (wrap64 (a0_1 + a0_3)) (wrap64 (a1_1 + a1_3)))).bind fun E0 => (some (E0.1, E0.2.1, E0.2.2.1, E0.2.2.2))) = some (r1, r2, r3, r4) := h
 clear h
 obtain ⟨E2, E5⟩ : ∃ j_ : Int, (mx a0_0 a1_0) = j_ := ⟨_, rfl⟩
 replace H : ((rect_between.f (E2) (mx a0_1 a1_1) (mn (wrap64 (a0_0 + a0_2)) (wrap64 (a1_0 + a1_2))) (mn (wrap64 (a0_1 + a0_3)) (wrap64 (a1_1 + a1_3)))).bind fun E0 => (some (E0.1, E0.2.1, E0.2.2.1, E0.2.2.2))) = some (r1, r2, r3, r4) := by first | (rw [E5] at H; exact H) | (simp only [E5] at H ⊢; exact H)
 have hji3_ : (if a0_0 < a1_0 then a1_0 else a0_0) = E2 := E5
 obtain ⟨E4, E6⟩ : ∃ j_ : Int, (mx a0_1 a1_1) = j_ := ⟨_, rfl⟩
 replace H : ((rect_between.f (E2) (E4) (mn (wrap64 (a0_0 + a0_2)) (wrap64 (a1_0 + a1_2))) (mn (wrap64 (a0_1 + a0_3)) (wrap64 (a1_1 + a1_3)))).bind fun E0 => (some (E0.1, E0.2.1, E0.2.2.1, E0.2.2.2))) = some (r1, r2, r3, r4) := by first | (rw [E6] at H; exact H) | (simp only [E6] at H ⊢; exact H)
 have hji4_ : (if a0_1 < a1_1 then a1_1 else a0_1) = E4 := E6
 obtain ⟨E7, E8⟩ : ∃ j_ : Int, (mn (wrap64 (a0_0 + a0_2)) (wrap64 (a1_0 + a1_2))) = j_ := ⟨_, rfl⟩
 replace H : ((rect_between.f (E2) (E4) (E7) (mn (wrap64 (a0_1 + a0_3)) (wrap64 (a1_1 + a1_3)))).bind fun E0 => (some (E0.1, E0.2.1, E0.2.2.1, E0.2.2.2))) = some (r1, r2, r3, r4) := by first | (rw [E8] at H; exact H) | (simp only [E8] at H ⊢; exact H)
 have hji5_ : (if (wrap64 (a1_0 + a1_2)) < (wrap64 (a0_0 + a0_2)) then (wrap64 (a1_0 + a1_2)) else (wrap64 (a0_0 + a0_2))) = E7 := E8
 obtain ⟨G0, E9⟩ : ∃ j_ : Int, (mn (wrap64 (a0_1 + a0_3)) (wrap64 (a1_1 + a1_3))) = j_ := ⟨_, rfl⟩
 replace H : ((rect_between.f (E2) (E4) (E7) (G0)).bind fun E0 => (some (E0.1, E0.2.1, E0.2.2.1, E0.2.2.2))) = some (r1, r2, r3, r4) := by first | (rw [E9] at H; exact H) | (simp only [E9] at H ⊢; exact H)
 have hji6_ : (if (wrap64 (a1_1 + a1_3)) < (wrap64 (a0_1 + a0_3)) then (wrap64 (a1_1 + a1_3)) else (wrap64 (a0_1 + a0_3))) = G0 := E9
 replace H := Option.bind_eq_some_iff.mp H
 obtain ⟨⟨t199, t200, t201, t202⟩, A70, H⟩ := H
 try dsimp only at H
 have A7 := Aside0.mk A70
 clear A70
 simp only [Option.some.injEq, Prod.mk.injEq] at H
 obtain ⟨rfl, rfl, rfl, rfl⟩ := H
 go_enter Try.func70, Try.ntmps70
 go_wp2_with (first | ((with_reducible refine gate_dst (N := 2) rfl ?_); refine box_event ?hg (N := 2) ?hd (cs := #[.int .i64 a0_0, .int .i64 a0_1, .int .i64 a0_2, .int .i64 a0_3]) (t := 34) ?hr ?_; (case hd => rfl); (case hg => rfl); (case hr => first | (go_simp; done) | (go_simp; rfl)); intro V0 hg w8 hbox hb; have V1 := zg HB hg; have V2 := zg HB hg; have n0_ := Aside0.mk (hbox); replace HB := zb HB hb; have E1 := n0_; clear n0_; clear hb hbox hg) | ((with_reducible refine gate_dst (N := 3) rfl ?_); refine box_event ?hg (N := 3) ?hd (cs := #[.int .i64 a1_0, .int .i64 a1_1, .int .i64 a1_2, .int .i64 a1_3]) (t := 34) ?hr ?_; (case hd => rfl); (case hg => rfl); (case hr => first | (go_simp; done) | (go_simp; rfl)); intro V3 hg w9 hbox hb; have V4 := zg HB hg; have V5 := zg HB hg; have G2 := zn E1 hg; have G3 := zn' E1 hg; have n0_ := Aside0.mk (hbox); replace E1 := zk E1 hb; replace HB := zb HB hb; have E3 := n0_; clear n0_; clear hb hbox hg) | ((with_reducible refine gate_dst (N := 4) rfl ?_); refine box_event ?hg (N := 4) ?hd (cs := #[.int .i64 0, .int .i64 0, .int .i64 0, .int .i64 0]) (t := 34) ?hr ?_; (case hd => rfl); (case hg => rfl); (case hr => first | (go_simp; done) | (go_simp; rfl)); intro G4 hg w10 hbox hb; have V6 := zg HB hg; have G5 := zg HB hg; have G6 := zn E1 hg; have G7 := zn' E1 hg; have G8 := zn E3 hg; have G9 := zn' E3 hg; have n0_ := Aside0.mk (hbox); replace E1 := zk E1 hb; replace E3 := zk E3 hb; replace HB := zb HB hb; have G1 := n0_; clear n0_; clear hb hbox hg; have V7 := G2.out; have V8 := G3.out; have V9 := G6.out; have Y0 := G7.out; obtain ⟨Y1, Y2, Y3, Y4, Y5, Y6, Y7, Y8⟩ := zq4 E1; have Y9 := G8.out; have Z0 := G9.out; obtain ⟨Z1, Z2, Z3, Z4, Z5, Z6, Z7, Z8⟩ := zq4 E3) | ((with_reducible refine gate_callee (f := 88) rfl ?_); refine goesL_ (some 37) rfl rfl Try.func88 (by kernel_rfl) rfl #[.int .i64 E2, .int .i64 E4, .int .i64 E7, .int .i64 G0] rfl (by (try simp only [List.map_toArray, List.map_cons, List.map_nil]); first | done | (simp only [E5, E6, E8, E9]; rfl) | rfl | (simp only [List.length_drop, List.length_take]; rfl)) ?_; (with_reducible refine (rect_between.calls E2 E4 E7 G0 t199 t200 t201 t202 _ A7.out).mono ?_); rintro e w16 ⟨rfl, hb⟩; refine ⟨_, rfl, ?_⟩; replace E1 := zk E1 hb; replace E3 := zk E3 hb; replace G1 := zk G1 hb; replace HB := zb HB hb; (try clear hb); obtain ⟨Z9, J0, J1, J2, J3, J4, J5, J6⟩ := zq4 G1))
 refine bodyPost_ret (results_cell_row rfl _ _ G4 34 #[.int .i64 t199, .int .i64 t200, .int .i64 t201, .int .i64 t202] (0, 0) _ rfl (by exact zp G1 rfl) Try.underlying34 rfl (by kernel_rfl)) rfl ?_
 exact ⟨by first | rfl | (simp [errW_none, errW_some] <;> rfl) | (simp only [← E5, ← E6, ← E8, ← E9]; first | rfl | (simp [errW_none, errW_some] <;> rfl)) | (simp [*, errW_none, errW_some] <;> rfl), by exact zbo HB G5⟩

/-! ### rect_Meet: function 37 -/
def rect_Meet.f (a0_0 : Int) (a0_1 : Int) (a0_2 : Int) (a0_3 : Int) (a1_0 : Int) (a1_1 : Int) (a1_2 : Int) (a1_3 : Int) : Option (Int × Int × Int × Int) := (rect_known.f a0_0 a0_1 a0_2 a0_3).bind fun E6 => ((rect_known.f a1_0 a1_1 a1_2 a1_3).bind fun E7 => ((rect_meet.f E6.1 E6.2.1 E6.2.2.1 E6.2.2.2 E7.1 E7.2.1 E7.2.2.1 E7.2.2.2).bind fun E8 => (some (E8.1, E8.2.1, E8.2.2.1, E8.2.2.2))))
set_option maxHeartbeats 8000000 in
set_option maxRecDepth 100000 in
theorem rect_Meet.calls (a0_0 : Int) (a0_1 : Int) (a0_2 : Int) (a0_3 : Int) (a1_0 : Int) (a1_1 : Int) (a1_2 : Int) (a1_3 : Int) (r1 : Int) (r2 : Int) (r3 : Int) (r4 : Int) (w : World) (h : rect_Meet.f a0_0 a0_1 a0_2 a0_3 a1_0 a1_1 a1_2 a1_3 = some (r1, r2, r3, r4)) :
  Calls Try.prog 37 #[.agg #[.int .i64 a0_0, .int .i64 a0_1, .int .i64 a0_2, .int .i64 a0_3], .agg #[.int .i64 a1_0, .int .i64 a1_1, .int .i64 a1_2, .int .i64 a1_3]] w fun e w' => e = .returned (.agg #[.int .i64 r1, .int .i64 r2, .int .i64 r3, .int .i64 r4]) ∧ Below w.heap.size w w' := by
 have hu34 := Try.underlying34
 have HB := Aside0.mk (Below.refl w.heap.size w)
 have H : ((rect_known.f a0_0 a0_1 a0_2 a0_3).bind fun E6 => ((rect_known.f a1_0 a1_1 a1_2 a1_3).bind fun E7 => ((rect_meet.f E6.1 E6.2.1 E6.2.2.1 E6.2.2.2 E7.1 E7.2.1 E7.2.2.1 E7.2.2.2).bind fun E8 => (some (E8.1, E8.2.1, E8.2.2.1, E8.2.2.2))))) = some (r1, r2, r3, r4) := h
 clear h
 replace H := Option.bind_eq_some_iff.mp H
 obtain ⟨⟨t206, t207, t208, t209⟩, A30, H⟩ := H
 try dsimp only at H
 have A3 := Aside0.mk A30
 clear A30
 replace H := Option.bind_eq_some_iff.mp H
 obtain ⟨⟨t210, t211, t212, t213⟩, A40, H⟩ := H
 try dsimp only at H
 have A4 := Aside0.mk A40
 clear A40
 replace H := Option.bind_eq_some_iff.mp H
 obtain ⟨⟨t214, t215, t216, t217⟩, A50, H⟩ := H
 try dsimp only at H
 have A5 := Aside0.mk A50
 clear A50
 simp only [Option.some.injEq, Prod.mk.injEq] at H
 obtain ⟨rfl, rfl, rfl, rfl⟩ := H
 go_enter Try.func37, Try.ntmps37
 try go_wp2_with (first | ((with_reducible refine gate_dst (N := 2) rfl ?_); refine box_event ?hg (N := 2) ?hd (cs := #[.int .i64 a0_0, .int .i64 a0_1, .int .i64 a0_2, .int .i64 a0_3]) (t := 34) ?hr ?_; (case hd => rfl); (case hg => rfl); (case hr => first | (go_simp; done) | (go_simp; rfl)); intro E9 hg w6 hbox hb; have G4 := zg HB hg; have G5 := zg HB hg; have n0_ := Aside0.mk (hbox); replace HB := zb HB hb; have E1 := n0_; clear n0_; clear hb hbox hg) | ((with_reducible refine gate_dst (N := 3) rfl ?_); refine box_event ?hg (N := 3) ?hd (cs := #[.int .i64 a1_0, .int .i64 a1_1, .int .i64 a1_2, .int .i64 a1_3]) (t := 34) ?hr ?_; (case hd => rfl); (case hg => rfl); (case hr => first | (go_simp; done) | (go_simp; rfl)); intro G0 hg w7 hbox hb; have G6 := zg HB hg; have G7 := zg HB hg; have G8 := zn E1 hg; have G9 := zn' E1 hg; have n0_ := Aside0.mk (hbox); replace E1 := zk E1 hb; replace HB := zb HB hb; have E2 := n0_; clear n0_; clear hb hbox hg) | ((with_reducible refine gate_dst (N := 4) rfl ?_); refine box_event ?hg (N := 4) ?hd (cs := #[.int .i64 0, .int .i64 0, .int .i64 0, .int .i64 0]) (t := 34) ?hr ?_; (case hd => rfl); (case hg => rfl); (case hr => first | (go_simp; done) | (go_simp; rfl)); intro E0 hg w8 hbox hb; have V0 := zg HB hg; have G3 := zg HB hg; have E3 := zn E1 hg; have G1 := zn' E1 hg; have E4 := zn E2 hg; have G2 := zn' E2 hg; have n0_ := Aside0.mk (hbox); replace E1 := zk E1 hb; replace E2 := zk E2 hb; replace HB := zb HB hb; have E5 := n0_; clear n0_; clear hb hbox hg))
 replace E1 := zkd E1
 replace E2 := zkd E2
 replace E5 := zkd E5
 replace HB := zbd HB
 refine start_ (n := 6) (S := fun w' => w'.cell? ⟨E9, 0, none⟩ = some (.int .i64 a0_0) ∧ w'.cell? ⟨E9, 1, none⟩ = some (.int .i64 a0_1) ∧ w'.cell? ⟨E9, 2, none⟩ = some (.int .i64 a0_2) ∧ w'.cell? ⟨E9, 3, none⟩ = some (.int .i64 a0_3) ∧ w'.cell? ⟨G0, 0, none⟩ = some (.int .i64 a1_0) ∧ w'.cell? ⟨G0, 1, none⟩ = some (.int .i64 a1_1) ∧ w'.cell? ⟨G0, 2, none⟩ = some (.int .i64 a1_2) ∧ w'.cell? ⟨G0, 3, none⟩ = some (.int .i64 a1_3)) (ds := []) (bs 6 0) (by kernel_rfl) rfl rfl ⟨(blk_cell E1.out 0).trans rfl, (blk_cell E1.out 1).trans rfl, (blk_cell E1.out 2).trans rfl, (blk_cell E1.out 3).trans rfl, (blk_cell E2.out 0).trans rfl, (blk_cell E2.out 1).trans rfl, (blk_cell E2.out 2).trans rfl, (blk_cell E2.out 3).trans rfl⟩ (fun hHeld => ?_)
 generalize w8.drew = w9 at E1 E2 E5 HB hHeld ⊢
 refine take_ (i := 0) (N := some 5) (v := ?_) (a' := ?_) (bs 6 1) rfl rfl (by kernel_rfl) (fun _ _ _ h => h) (Or.inl ⟨by rfl, ?_⟩) hHeld ?_ ?_
 rotate_left
 ·rintro w' ⟨s0, s1, s2, s3, s4, s5, s6, s7⟩
  go_simp
  with_reducible rfl
 rotate_left
 ·simp only [Act.put, sA, sB, sC, i64_w, i32_w]
  rfl
 refine take_ (i := 2) (N := some 7) (v := ?_) (a' := ?_) (bs 6 5) rfl rfl (by kernel_rfl) (fun _ _ _ h => h) (Or.inl ⟨by rfl, ?_⟩) hHeld ?_ ?_
 rotate_left
 ·rintro w' ⟨s0, s1, s2, s3, s4, s5, s6, s7⟩
  go_simp
  with_reducible rfl
 rotate_left
 ·simp only [Act.put, sA, sB, sC, i64_w, i32_w]
  rfl
 refine one_ (i := 1) (N := some 6) (bs 6 7) rfl rfl (by kernel_rfl) (by decide) (fun K hK => ?_)
 refine goes_ Try.func62 (by kernel_rfl) rfl #[.agg #[.int .i64 a0_0, .int .i64 a0_1, .int .i64 a0_2, .int .i64 a0_3]] (by rfl) rfl rfl (by (try simp only [List.map_toArray, List.map_cons, List.map_nil]); first | done | rfl | (simp only [List.length_drop, List.length_take]; rfl)) ?_
 with_reducible refine (rect_known.calls a0_0 a0_1 a0_2 a0_3 t206 t207 t208 t209 _ A3.out).mono ?_
 rintro e w10 ⟨rfl, hb⟩
 refine ⟨_, rfl, ?_⟩
 replace E1 := zk E1 hb
 replace E2 := zk E2 hb
 replace E5 := zk E5 hb
 replace HB := zb HB hb
 (try clear hb)
 (try clear hb2)
 (try clear hk)
 (try clear hi)
 refine hK.out _ _ ⟨(blk_cell E1.out 0).trans rfl, (blk_cell E1.out 1).trans rfl, (blk_cell E1.out 2).trans rfl, (blk_cell E1.out 3).trans rfl, (blk_cell E2.out 0).trans rfl, (blk_cell E2.out 1).trans rfl, (blk_cell E2.out 2).trans rfl, (blk_cell E2.out 3).trans rfl⟩ (fun hHeld => ?_)
 clear hK K
 refine norm_ (a' := ?_) ?_ ?_
 rotate_left
 ·show Act.put _ (some 6) _ = _
  simp only [Act.put, sA, sB, sC, i64_w, i32_w]
  rfl
 refine one_ (i := 3) (N := some 8) (bs 6 15) rfl rfl (by kernel_rfl) (by decide) (fun K hK => ?_)
 refine goes_ Try.func62 (by kernel_rfl) rfl #[.agg #[.int .i64 a1_0, .int .i64 a1_1, .int .i64 a1_2, .int .i64 a1_3]] (by rfl) rfl rfl (by (try simp only [List.map_toArray, List.map_cons, List.map_nil]); first | done | rfl | (simp only [List.length_drop, List.length_take]; rfl)) ?_
 with_reducible refine (rect_known.calls a1_0 a1_1 a1_2 a1_3 t210 t211 t212 t213 _ A4.out).mono ?_
 rintro e w11 ⟨rfl, hb⟩
 refine ⟨_, rfl, ?_⟩
 replace E1 := zk E1 hb
 replace E2 := zk E2 hb
 replace E5 := zk E5 hb
 replace HB := zb HB hb
 (try clear hb)
 (try clear hb2)
 (try clear hk)
 (try clear hi)
 refine hK.out _ _ ⟨(blk_cell E1.out 0).trans rfl, (blk_cell E1.out 1).trans rfl, (blk_cell E1.out 2).trans rfl, (blk_cell E1.out 3).trans rfl, (blk_cell E2.out 0).trans rfl, (blk_cell E2.out 1).trans rfl, (blk_cell E2.out 2).trans rfl, (blk_cell E2.out 3).trans rfl⟩ (fun hHeld => ?_)
 clear hK K
 refine norm_ (a' := ?_) ?_ ?_
 rotate_left
 ·show Act.put _ (some 8) _ = _
  simp only [Act.put, sA, sB, sC, i64_w, i32_w]
  rfl
 refine one_ (i := 4) (N := some 9) (bs 6 31) rfl rfl (by kernel_rfl) (by decide) (fun K hK => ?_)
 refine goes_ Try.func70 (by kernel_rfl) rfl #[.agg #[.int .i64 t206, .int .i64 t207, .int .i64 t208, .int .i64 t209], .agg #[.int .i64 t210, .int .i64 t211, .int .i64 t212, .int .i64 t213]] (by rfl) rfl rfl (by (try simp only [List.map_toArray, List.map_cons, List.map_nil]); first | done | rfl | (simp only [List.length_drop, List.length_take]; rfl)) ?_
 with_reducible refine (rect_meet.calls t206 t207 t208 t209 t210 t211 t212 t213 t214 t215 t216 t217 _ A5.out).mono ?_
 rintro e w12 ⟨rfl, hb⟩
 refine ⟨_, rfl, ?_⟩
 replace E1 := zk E1 hb
 replace E2 := zk E2 hb
 replace E5 := zk E5 hb
 replace HB := zb HB hb
 (try clear hb)
 (try clear hb2)
 (try clear hk)
 (try clear hi)
 refine hK.out _ _ ⟨(blk_cell E1.out 0).trans rfl, (blk_cell E1.out 1).trans rfl, (blk_cell E1.out 2).trans rfl, (blk_cell E1.out 3).trans rfl, (blk_cell E2.out 0).trans rfl, (blk_cell E2.out 1).trans rfl, (blk_cell E2.out 2).trans rfl, (blk_cell E2.out 3).trans rfl⟩ (fun hHeld => ?_)
 clear hK K
 refine norm_ (a' := ?_) ?_ ?_
 rotate_left
 ·show Act.put _ (some 9) _ = _
  simp only [Act.put, sA, sB, sC, i64_w, i32_w]
  rfl
 refine one_ (i := 5) (N := none) (bs 6 63) rfl rfl (by kernel_rfl) (by decide) (fun K hK => ?_)
 have hs13 : w12.cell? ⟨E0, 0, none⟩ = some (.int .i64 0) := (blk_cell E5.out 0).trans rfl
 have hfs13 := blk_frozen E5.out 0
 have V1 := E3.out
 have V2 := E4.out
 have V3 := G1.out
 have V4 := G2.out
 have hs14 : w12.cell? ⟨E0, 1, none⟩ = some (.int .i64 0) := (blk_cell E5.out 1).trans rfl
 have hfs14 := blk_frozen E5.out 1
 have V5 := E3.out
 have V6 := E4.out
 have V7 := G1.out
 have V8 := G2.out
 have hs15 : w12.cell? ⟨E0, 2, none⟩ = some (.int .i64 0) := (blk_cell E5.out 2).trans rfl
 have hfs15 := blk_frozen E5.out 2
 have V9 := E3.out
 have Y0 := E4.out
 have Y1 := G1.out
 have Y2 := G2.out
 have hs16 : w12.cell? ⟨E0, 3, none⟩ = some (.int .i64 0) := (blk_cell E5.out 3).trans rfl
 have hfs16 := blk_frozen E5.out 3
 have Y3 := E3.out
 have Y4 := E4.out
 have Y5 := G1.out
 have Y6 := G2.out
 refine skip_ (w1 := ?_) (by rfl) rfl ?_ ?_
 rotate_left
 ·go_simp
  rfl
 refine hK.out _ _ ⟨((cell_far (p := ⟨E0, _, none⟩) E3.out _).trans (((cell_far (p := ⟨E0, _, none⟩) E3.out _).trans (((cell_far (p := ⟨E0, _, none⟩) E3.out _).trans (((cell_far (p := ⟨E0, _, none⟩) E3.out _).trans (hHeld.1)))))))), ((cell_far (p := ⟨E0, _, none⟩) E3.out _).trans (((cell_far (p := ⟨E0, _, none⟩) E3.out _).trans (((cell_far (p := ⟨E0, _, none⟩) E3.out _).trans (((cell_far (p := ⟨E0, _, none⟩) E3.out _).trans (hHeld.2.1)))))))), ((cell_far (p := ⟨E0, _, none⟩) E3.out _).trans (((cell_far (p := ⟨E0, _, none⟩) E3.out _).trans (((cell_far (p := ⟨E0, _, none⟩) E3.out _).trans (((cell_far (p := ⟨E0, _, none⟩) E3.out _).trans (hHeld.2.2.1)))))))), ((cell_far (p := ⟨E0, _, none⟩) E3.out _).trans (((cell_far (p := ⟨E0, _, none⟩) E3.out _).trans (((cell_far (p := ⟨E0, _, none⟩) E3.out _).trans (((cell_far (p := ⟨E0, _, none⟩) E3.out _).trans (hHeld.2.2.2.1)))))))), ((cell_far (p := ⟨E0, _, none⟩) E4.out _).trans (((cell_far (p := ⟨E0, _, none⟩) E4.out _).trans (((cell_far (p := ⟨E0, _, none⟩) E4.out _).trans (((cell_far (p := ⟨E0, _, none⟩) E4.out _).trans (hHeld.2.2.2.2.1)))))))), ((cell_far (p := ⟨E0, _, none⟩) E4.out _).trans (((cell_far (p := ⟨E0, _, none⟩) E4.out _).trans (((cell_far (p := ⟨E0, _, none⟩) E4.out _).trans (((cell_far (p := ⟨E0, _, none⟩) E4.out _).trans (hHeld.2.2.2.2.2.1)))))))), ((cell_far (p := ⟨E0, _, none⟩) E4.out _).trans (((cell_far (p := ⟨E0, _, none⟩) E4.out _).trans (((cell_far (p := ⟨E0, _, none⟩) E4.out _).trans (((cell_far (p := ⟨E0, _, none⟩) E4.out _).trans (hHeld.2.2.2.2.2.2.1)))))))), ((cell_far (p := ⟨E0, _, none⟩) E4.out _).trans (((cell_far (p := ⟨E0, _, none⟩) E4.out _).trans (((cell_far (p := ⟨E0, _, none⟩) E4.out _).trans (((cell_far (p := ⟨E0, _, none⟩) E4.out _).trans (hHeld.2.2.2.2.2.2.2))))))))⟩ (fun hHeld => ?_)
 clear hK K
 refine done_ (by kernel_rfl) ?_
 try go_wp2
 refine bodyPost_ret (results_cell_row rfl _ _ E0 34 #[.int .i64 t214, .int .i64 t215, .int .i64 t216, .int .i64 t217] (0, 0) _ rfl (by exact zp E5 rfl) Try.underlying34 rfl (by kernel_rfl)) rfl ?_
 exact ⟨by first | rfl | (simp [errW_none, errW_some] <;> rfl) | (simp [*, errW_none, errW_some] <;> rfl), by exact zbo HB G3⟩

/-! ### rect_limit: function 71 -/
def rect_limit.f (a0 : Int) : Option (Int) := some (mn (mx a0 (-4194304)) 4194304)
set_option maxHeartbeats 8000000 in
set_option maxRecDepth 100000 in
theorem rect_limit.calls (a0 : Int) (r : Int) (w : World) (h : rect_limit.f a0 = some r) :
  Calls Try.prog 71 #[.int .i64 a0] w fun e w' => e = .returned (.int .i64 r) ∧ Below w.heap.size w w' := by
 have HB := Aside0.mk (Below.refl w.heap.size w)
 have H : (some (mn (mx a0 (-4194304)) 4194304)) = some r := h
 clear h
 obtain ⟨E0, E1⟩ : ∃ j_ : Int, (mx a0 (-4194304)) = j_ := ⟨_, rfl⟩
 replace H : (some (mn (E0) 4194304)) = some r := by first | (rw [E1] at H; exact H) | (simp only [E1] at H ⊢; exact H)
 have hji2_ : (if a0 < (-4194304) then (-4194304) else a0) = E0 := E1
 obtain ⟨E3, E2⟩ : ∃ j_ : Int, (mn (E0) 4194304) = j_ := ⟨_, rfl⟩
 replace H : (some E3) = some r := by first | (rw [E2] at H; exact H) | (simp only [E2] at H ⊢; exact H)
 have hji3_ : (if 4194304 < (E0) then 4194304 else (E0)) = E3 := E2
 obtain rfl := Option.some.inj H
 go_enter Try.func71, Try.ntmps71
 go_wp2
 go_ret
 exact ⟨by first | rfl | (simp [errW_none, errW_some] <;> rfl) | (simp only [← E1, ← E2]; first | rfl | (simp [errW_none, errW_some] <;> rfl)) | (simp [*, errW_none, errW_some] <;> rfl), by exact zb0 HB⟩

/-! ### rect_world: function 72 -/
def rect_world.f  : Option (Int × Int × Int × Int) := some ((-1048576), (-1048576), 2097152, 2097152)
set_option maxHeartbeats 8000000 in
set_option maxRecDepth 100000 in
theorem rect_world.calls  (r1 : Int) (r2 : Int) (r3 : Int) (r4 : Int) (w : World) (h : rect_world.f  = some (r1, r2, r3, r4)) :
  Calls Try.prog 72 #[] w fun e w' => e = .returned (.agg #[.int .i64 r1, .int .i64 r2, .int .i64 r3, .int .i64 r4]) ∧ Below w.heap.size w w' := by
 have hu34 := Try.underlying34
 have HB := Aside0.mk (Below.refl w.heap.size w)
 have H : (some ((-1048576), (-1048576), 2097152, 2097152)) = some (r1, r2, r3, r4) := h
 clear h
 simp only [Option.some.injEq, Prod.mk.injEq] at H
 obtain ⟨rfl, rfl, rfl, rfl⟩ := H
 go_enter Try.func72, Try.ntmps72
 go_wp2_with (first | ((with_reducible refine gate_dst (N := 0) rfl ?_); refine box_event ?hg (N := 0) ?hd (cs := #[.int .i64 0, .int .i64 0, .int .i64 0, .int .i64 0]) (t := 34) ?hr ?_; (case hd => rfl); (case hg => rfl); (case hr => first | (go_simp; done) | (go_simp; rfl)); intro E1 hg w1 hbox hb; have E3 := zg HB hg; have E2 := zg HB hg; have n0_ := Aside0.mk (hbox); replace HB := zb HB hb; have E0 := n0_; clear n0_; clear hb hbox hg; obtain ⟨E4, E5, E6, E7, E8, E9, G0, G1⟩ := zq4 E0))
 refine bodyPost_ret (results_cell_row rfl _ _ E1 34 #[.int .i64 (-1048576), .int .i64 (-1048576), .int .i64 2097152, .int .i64 2097152] (0, 0) _ rfl (by exact zp E0 rfl) Try.underlying34 rfl (by kernel_rfl)) rfl ?_
 exact ⟨by first | rfl | (simp [errW_none, errW_some] <;> rfl) | (simp [*, errW_none, errW_some] <;> rfl), by exact zbo HB E2⟩

end Go.Proofs.Ytnfbabmceddciaa.G
