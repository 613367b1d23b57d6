/- Contracts of functions of the program, each as it is called: what it computes (.f), that it computes no less with more rounds (.mono), and that a call returns just that (.calls). No conditions but those that each contract names. Written by a program of this session (wip/gx.py over the kit's print). -/
import Derived.Test.YtapdifpmijgkcaaG0
import Derived.Test.YtapdifpmijgkcaaG1
import Derived.Test.YtapdifpmijgkcaaG4
import Derived.Test.YtapdifpmijgkcaaG5
import Derived.Test.YtapdifpmijgkcaaG6
namespace Go.Proofs.Ytapdifpmijgkcaa.G
open Go.RowKit Go.Proofs.YtapdifpmijgkcaaW.PrintWords Go.Proofs.YtapdifpmijgkcaaW.PrintLast Go.Proofs.YtapdifpmijgkcaaW.PrintMore
attribute [local go_sem] max2_int min2_int max_two min_two max_three min_three max_four min_four   -- for this text's walks alone
set_option linter.unusedVariables false
set_option linter.unusedSimpArgs false


/-! ### sample_source_at: function 28 -/
mutual
def sample_source_at.l0 : Nat → Int → List Int → Int → Int → List Int → Int → Int → Int → Int → List (S37) → Bool → Int → Int → Int → Int → Int → Int → Option (Int × Int × Int × Int)
 | 0, _, _, _, _, _, _, _, _, _, _, _, _, _, _, _, _, _ => none
 | k + 1, x9, x10, x11, x13, x47, x48, x49, V9, Y0, Y1, Y2, Y3, Y4, Y5, Y6, Y7, Y8 => if x49 < x48 then (if 0 ≤ x49 then (if x49 < (x47.length : Int) then (sample_source_at.l1 k x9 x10 x11 x13 x49 (rd x47 x49) 0 0 0 0 x47 x48 x49 x10 (x10.length : Int) 0 V9 Y0 Y1 Y2 Y3 Y4 Y5 Y6 Y7 Y8) else (none)) else (none)) else ((num_Div.f k x13 4294967296).bind fun t241 => ((num_Clamp.f t241 0 65535).bind fun t242 => (if t242 = 0 then (some (0, 0, 0, 0)) else ((sample_sum_over.f k Y3 Y4 x13).bind fun t243 => ((sample_sum_over.f k Y5 Y6 x13).bind fun t244 => ((sample_sum_over.f k Y7 Y8 x13).bind fun t245 => (some (t243, t244, t245, t242))))))))
def sample_source_at.l1 : Nat → Int → List Int → Int → Int → Int → Int → Int → Int → Int → Int → List Int → Int → Int → List Int → Int → Int → Int → Int → List (S37) → Bool → Int → Int → Int → Int → Int → Int → Option (Int × Int × Int × Int)
 | 0, _, _, _, _, _, _, _, _, _, _, _, _, _, _, _, _, _, _, _, _, _, _, _, _, _, _ => none
 | k + 1, x9, x10, x11, x13, x17, x18, x19, x20, x21, x22, x47, x48, x49, x54, x55, x56, V9, Y0, Y1, Y2, Y3, Y4, Y5, Y6, Y7, Y8 => if x56 < x55 then (if 0 ≤ x56 then (if x56 < (x54.length : Int) then ((sample_source_get.f k V9 Y0 Y1 Y2 (wrap64 (x9 + x56)) (wrap64 (x11 + x17))).bind fun G8 => (sample_source_at.l1 k x9 x10 x11 x13 x17 x18 (wrap64 (x19 + (wrap64 ((rd x54 x56) * G8.2.2.2)))) (wrap64 (x20 + (wrap64 ((wrap64 ((rd x54 x56) * G8.1)) * G8.2.2.2)))) (wrap64 (x21 + (wrap64 ((wrap64 ((rd x54 x56) * G8.2.1)) * G8.2.2.2)))) (wrap64 (x22 + (wrap64 ((wrap64 ((rd x54 x56) * G8.2.2.1)) * G8.2.2.2)))) x47 x48 x49 x54 x55 (wrap64 (x56 + 1)) V9 Y0 Y1 Y2 Y3 Y4 Y5 Y6 Y7 Y8)) else (none)) else (none)) else ((sample_sum_add.f Y3 Y4 x18 x20).bind fun Z9 => ((sample_sum_add.f Y5 Y6 x18 x21).bind fun J0 => ((sample_sum_add.f Y7 Y8 x18 x22).bind fun J1 => (sample_source_at.l0 k x9 x10 x11 (wrap64 (x13 + (wrap64 (x18 * x19)))) x47 x48 (wrap64 (x49 + 1)) V9 Y0 Y1 Y2 Z9.1 Z9.2 J0.1 J0.2 J1.1 J1.2))))
end
def sample_source_at.f (k : Nat) (a0_0 : Int) (a0_1 : Int) (l0_2 : List (S37)) (a0_3 : Bool) (a1 : Int) (a2 : Int) (a3 : Int) : Option (Int × Int × Int × Int) := if a1 = 0 then ((sample_source_get.f k a0_0 a0_1 l0_2 a0_3 (a2 / 65536) (a3 / 65536)).bind fun G5 => (some (G5.1, G5.2.1, G5.2.2.1, G5.2.2.2))) else ((kernel_Taps.f k a1 a2).bind fun Y9 => ((kernel_Taps.f k a1 a3).bind fun G9 => (sample_source_at.l0 k Y9.1 Y9.2 G9.1 0 G9.2 (G9.2.length : Int) 0 a0_0 a0_1 l0_2 a0_3 0 0 0 0 0 0)))
theorem sample_source_at.mono_l : ∀ k, (∀ y0 y1 y2 y3 y4 y5 y6 y7 y8 y9 y10 y11 y12 y13 y14 y15 y16, LeO (sample_source_at.l0 k y0 y1 y2 y3 y4 y5 y6 y7 y8 y9 y10 y11 y12 y13 y14 y15 y16) (sample_source_at.l0 (k + 1) y0 y1 y2 y3 y4 y5 y6 y7 y8 y9 y10 y11 y12 y13 y14 y15 y16)) ∧ (∀ y0 y1 y2 y3 y4 y5 y6 y7 y8 y9 y10 y11 y12 y13 y14 y15 y16 y17 y18 y19 y20 y21 y22 y23 y24 y25, LeO (sample_source_at.l1 k y0 y1 y2 y3 y4 y5 y6 y7 y8 y9 y10 y11 y12 y13 y14 y15 y16 y17 y18 y19 y20 y21 y22 y23 y24 y25) (sample_source_at.l1 (k + 1) y0 y1 y2 y3 y4 y5 y6 y7 y8 y9 y10 y11 y12 y13 y14 y15 y16 y17 y18 y19 y20 y21 y22 y23 y24 y25))
 | 0 => ⟨fun _ _ _ _ _ _ _ _ _ _ _ _ _ _ _ _ _ r h => by simp [sample_source_at.l0] at h, fun _ _ _ _ _ _ _ _ _ _ _ _ _ _ _ _ _ _ _ _ _ _ _ _ _ _ r h => by simp [sample_source_at.l1] at h⟩
 | k + 1 => by
  obtain ⟨ih0, ih1⟩ := sample_source_at.mono_l k
  refine ⟨?_, ?_⟩
  ·intro y0 y1 y2 y3 y4 y5 y6 y7 y8 y9 y10 y11 y12 y13 y14 y15 y16
   unfold sample_source_at.l0
   repeat' first
   | (with_reducible exact ih0 _ _ _ _ _ _ _ _ _ _ _ _ _ _ _ _ _)
   | (with_reducible exact ih1 _ _ _ _ _ _ _ _ _ _ _ _ _ _ _ _ _ _ _ _ _ _ _ _ _ _)
   | (with_reducible exact kernel_Taps.mono _ _ _)
   | (with_reducible exact num_Div.mono _ _ _)
   | (with_reducible exact sample_source_get.mono _ _ _ _ _ _ _)
   | (with_reducible exact sample_sum_over.mono _ _ _ _)
   | (with_reducible exact LeO.refl _)
   | (with_reducible exact LeO.none _)
   | (with_reducible refine LeO.ite ?_ ?_)
   | (with_reducible refine LeO.bind ?_ (fun _ => ?_))
   | exact ih0 _ _ _ _ _ _ _ _ _ _ _ _ _ _ _ _ _
   | exact ih1 _ _ _ _ _ _ _ _ _ _ _ _ _ _ _ _ _ _ _ _ _ _ _ _ _ _
   | exact kernel_Taps.mono _ _ _
   | exact num_Div.mono _ _ _
   | exact sample_source_get.mono _ _ _ _ _ _ _
   | exact sample_sum_over.mono _ _ _ _
   | exact LeO.none _
   | refine LeO.ite ?_ ?_
   | refine LeO.bind ?_ (fun _ => ?_)
  ·intro y0 y1 y2 y3 y4 y5 y6 y7 y8 y9 y10 y11 y12 y13 y14 y15 y16 y17 y18 y19 y20 y21 y22 y23 y24 y25
   unfold sample_source_at.l1
   repeat' first
   | (with_reducible exact ih0 _ _ _ _ _ _ _ _ _ _ _ _ _ _ _ _ _)
   | (with_reducible exact ih1 _ _ _ _ _ _ _ _ _ _ _ _ _ _ _ _ _ _ _ _ _ _ _ _ _ _)
   | (with_reducible exact kernel_Taps.mono _ _ _)
   | (with_reducible exact num_Div.mono _ _ _)
   | (with_reducible exact sample_source_get.mono _ _ _ _ _ _ _)
   | (with_reducible exact sample_sum_over.mono _ _ _ _)
   | (with_reducible exact LeO.refl _)
   | (with_reducible exact LeO.none _)
   | (with_reducible refine LeO.ite ?_ ?_)
   | (with_reducible refine LeO.bind ?_ (fun _ => ?_))
   | exact ih0 _ _ _ _ _ _ _ _ _ _ _ _ _ _ _ _ _
   | exact ih1 _ _ _ _ _ _ _ _ _ _ _ _ _ _ _ _ _ _ _ _ _ _ _ _ _ _
   | exact kernel_Taps.mono _ _ _
   | exact num_Div.mono _ _ _
   | exact sample_source_get.mono _ _ _ _ _ _ _
   | exact sample_sum_over.mono _ _ _ _
   | exact LeO.none _
   | refine LeO.ite ?_ ?_
   | refine LeO.bind ?_ (fun _ => ?_)
theorem sample_source_at.mono : ∀ a0 a1 a2 a3 a4 a5 a6 k, LeO (sample_source_at.f k a0 a1 a2 a3 a4 a5 a6) (sample_source_at.f (k + 1) a0 a1 a2 a3 a4 a5 a6) := by
 intro a0 a1 a2 a3 a4 a5 a6 k
 obtain ⟨ih0, ih1⟩ := sample_source_at.mono_l k
 unfold sample_source_at.f
 repeat' first
   | (with_reducible exact ih0 _ _ _ _ _ _ _ _ _ _ _ _ _ _ _ _ _)
   | (with_reducible exact ih1 _ _ _ _ _ _ _ _ _ _ _ _ _ _ _ _ _ _ _ _ _ _ _ _ _ _)
   | (with_reducible exact kernel_Taps.mono _ _ _)
   | (with_reducible exact num_Div.mono _ _ _)
   | (with_reducible exact sample_source_get.mono _ _ _ _ _ _ _)
   | (with_reducible exact sample_sum_over.mono _ _ _ _)
   | (with_reducible exact LeO.refl _)
   | (with_reducible exact LeO.none _)
   | (with_reducible refine LeO.ite ?_ ?_)
   | (with_reducible refine LeO.bind ?_ (fun _ => ?_))
   | exact ih0 _ _ _ _ _ _ _ _ _ _ _ _ _ _ _ _ _
   | exact ih1 _ _ _ _ _ _ _ _ _ _ _ _ _ _ _ _ _ _ _ _ _ _ _ _ _ _
   | exact kernel_Taps.mono _ _ _
   | exact num_Div.mono _ _ _
   | exact sample_source_get.mono _ _ _ _ _ _ _
   | exact sample_sum_over.mono _ _ _ _
   | exact LeO.none _
   | refine LeO.ite ?_ ?_
   | refine LeO.bind ?_ (fun _ => ?_)
def sample_source_at.T28 : Bool × List (List Nat × List Nat) := (true, [([], []), ([], []), ([0, 1], [0, 1]), ([], []), ([], []), ([3, 4, 2], [3, 4]), ([], []), ([], []), ([6, 7, 5], [6, 7]), ([], []), ([2, 5, 8, 9], [2, 5, 8, 9]), ([10, 8, 0, 1, 2, 3, 4, 5, 6, 7, 8, 9, 10], [10])])
def sample_source_at.B28 : List Nat := [0, 0, 3, 0, 0, 31, 0, 0, 255, 0, 1023, 2047]
theorem sample_source_at.tab28 : rtab .any (opsOf Try.f28 28) = sample_source_at.T28 := by kernel_rfl
theorem sample_source_at.bits28 : waitsOk sample_source_at.T28.2 sample_source_at.B28 = true := by kernel_rfl
set_option maxHeartbeats 8000000 in
set_option maxRecDepth 100000 in
theorem sample_source_at.calls (k : Nat) (a0_0 : Int) (a0_1 : Int) (A0_2 : Option Addr) (c0_2 : Nat) (l0_2 : List (S37)) (a0_3 : Bool) (a1 : Int) (a2 : Int) (a3 : Int) (r1 : Int) (r2 : Int) (r3 : Int) (r4 : Int) (w : World) (hr0_2 : Kd.C k37 w A0_2 l0_2.length l0_2) (hc0_2 : l0_2.length ≤ c0_2) (h : sample_source_at.f k a0_0 a0_1 l0_2 a0_3 a1 a2 a3 = some (r1, r2, r3, r4)) :
  Calls Try.prog 28 #[.agg #[.int .i64 a0_0, .int .i64 a0_1, .slice A0_2 l0_2.length c0_2, .bool a0_3], .int .i64 a1, .int .i64 a2, .int .i64 a3] w fun e w' => e = .returned (.agg #[.int .i64 r1, .int .i64 r2, .int .i64 r3, .int .i64 r4]) ∧ Below w.heap.size w w' := by
 have hu60 := Try.underlying60
 have hu37 := Try.underlying37
 have hu82 := Try.underlying82
 have J2 := Aside0.mk hr0_2
 have J3 := Aside0.mk hc0_2
 clear hr0_2 hc0_2
 have HB := Aside0.mk (Below.refl w.heap.size w)
 have H : (if a1 = 0 then ((sample_source_get.f k a0_0 a0_1 l0_2 a0_3 (a2 / 65536) (a3 / 65536)).bind fun G5 => (some (G5.1, G5.2.1, G5.2.2.1, G5.2.2.2))) else ((kernel_Taps.f k a1 a2).bind fun Y9 => ((kernel_Taps.f k a1 a3).bind fun G9 => (sample_source_at.l0 k Y9.1 Y9.2 G9.1 0 G9.2 (G9.2.length : Int) 0 a0_0 a0_1 l0_2 a0_3 0 0 0 0 0 0)))) = some (r1, r2, r3, r4) := h
 clear h
 by_cases c5 : a1 = 0
 ·rw [if_pos c5] at H
  have Z6 : (a1 == 0) = true := beq_iff_eq.mpr c5
  have Z7 : (a1 != 0) = false := bne_eq_false_iff_eq.mpr c5
  clear c5
  replace H := Option.bind_eq_some_iff.mp H
  obtain ⟨⟨t213, t214, t215, t216⟩, A60, H⟩ := H
  try dsimp only at H
  have A6 := Aside0.mk A60
  clear A60
  simp only [Option.some.injEq, Prod.mk.injEq] at H
  obtain ⟨rfl, rfl, rfl, rfl⟩ := H
  go_enter Try.func28, Try.ntmps28
  go_wp2_with (first | ((with_reducible refine gate_dst (N := 4) rfl ?_); refine box_event ?hg (N := 4) ?hd (cs := #[.int .i64 a0_0, .int .i64 a0_1, .slice A0_2 l0_2.length c0_2, .bool a0_3]) (t := 60) ?hr ?_; (case hd => rfl); (case hg => rfl); (case hr => first | (go_simp; done) | (go_simp; rfl)); intro Z0 hg w7 hbox hb; have Q6 := zg HB hg; have Q7 := zg HB hg; have n0_ := Aside0.mk (hbox); replace HB := zb HB hb; have E1 := n0_; clear n0_; clear hb hbox hg) | ((with_reducible refine gate_dst (N := 8) rfl ?_); refine box_event ?hg (N := 8) ?hd (cs := #[.int .i64 0, .int .i64 0, .int .i64 0, .int .i64 0]) (t := 37) ?hr ?_; (case hd => rfl); (case hg => rfl); (case hr => first | (go_simp; done) | (go_simp; rfl)); intro E7 hg w8 hbox hb; have Q8 := zg HB hg; have Z4 := zg HB hg; have G6 := zn E1 hg; have G7 := zn' E1 hg; have n0_ := Aside0.mk (hbox); replace E1 := zk E1 hb; replace HB := zb HB hb; have E0 := n0_; clear n0_; clear hb hbox hg; have E0r := G6.out; have E0s := G7.out; obtain ⟨J4, J5, J6, J7, J8, J9, L0, L1⟩ := zq4 E1) | ((with_reducible refine gate_callee (f := 51) rfl ?_); refine goesL_ (some 34) rfl rfl Try.func51 (by kernel_rfl) rfl #[.agg #[.int .i64 a0_0, .int .i64 a0_1, .slice A0_2 l0_2.length c0_2, .bool a0_3], .int .i64 (a2 / 65536), .int .i64 (a3 / 65536)] rfl (by (try simp only [List.map_toArray, List.map_cons, List.map_nil]); first | done | rfl | (simp only [List.length_drop, List.length_take]; rfl)) ?_; (with_reducible refine (sample_source_get.calls k a0_0 a0_1 _ _ l0_2 a0_3 (a2 / 65536) (a3 / 65536) t213 t214 t215 t216 _ ?side1 ?side2 A6.out).mono ?_); (case side1 => repeat (first | exact (Kd.C_below J2.out HB.out) | (with_reducible refine Kd.C_alloc ?_ _) | (with_reducible refine Kd.C_drewN ?_ _) | (with_reducible refine Kd.C_drew ?_))); (case side2 => exact J3.out); rintro e w11 ⟨rfl, hb⟩; refine ⟨_, rfl, ?_⟩; replace E1 := zk E1 hb; replace E0 := zk E0 hb; replace HB := zb HB hb; (try clear hb); obtain ⟨L2, L3, L4, L5, L6, L7, L8, L9⟩ := zq4 E0))
  refine bodyPost_ret (results_cell_row rfl _ _ E7 37 #[.int .i64 t213, .int .i64 t214, .int .i64 t215, .int .i64 t216] (0, 0) _ rfl (by exact zp E0 rfl) Try.underlying37 rfl (by kernel_rfl)) rfl ?_
  exact ⟨by first | rfl | (simp [errW_none, errW_some] <;> rfl) | (simp [*, errW_none, errW_some] <;> rfl), by exact zbo HB Z4⟩
 rw [if_neg c5] at H
 have Z6 : (a1 == 0) = false := beq_eq_false_iff_ne.mpr c5
 have Z7 : (a1 != 0) = true := bne_iff_ne.mpr c5
 replace H := Option.bind_eq_some_iff.mp H
 obtain ⟨⟨t217, t218⟩, A130, H⟩ := H
 try dsimp only at H
 have A13 := Aside0.mk A130
 clear A130
 replace H := Option.bind_eq_some_iff.mp H
 obtain ⟨⟨t221, t222⟩, A140, H⟩ := H
 try dsimp only at H
 have A14 := Aside0.mk A140
 clear A140
 have H' := Aside0.mk H
 clear H
 go_enter Try.func28, Try.ntmps28
 go_wp2_with (first | ((with_reducible refine gate_dst (N := 4) rfl ?_); refine box_event ?hg (N := 4) ?hd (cs := #[.int .i64 a0_0, .int .i64 a0_1, .slice A0_2 l0_2.length c0_2, .bool a0_3]) (t := 60) ?hr ?_; (case hd => rfl); (case hg => rfl); (case hr => first | (go_simp; done) | (go_simp; rfl)); intro Z0 hg w15 hbox hb; have Q6 := zg HB hg; have Q7 := zg HB hg; have n0_ := Aside0.mk (hbox); replace HB := zb HB hb; have E1 := n0_; clear n0_; clear hb hbox hg) | ((with_reducible refine gate_dst (N := 8) rfl ?_); refine box_event ?hg (N := 8) ?hd (cs := #[.int .i64 0, .int .i64 0, .int .i64 0, .int .i64 0]) (t := 37) ?hr ?_; (case hd => rfl); (case hg => rfl); (case hr => first | (go_simp; done) | (go_simp; rfl)); intro E7 hg w16 hbox hb; have Q8 := zg HB hg; have Z4 := zg HB hg; have G6 := zn E1 hg; have G7 := zn' E1 hg; have n0_ := Aside0.mk (hbox); replace E1 := zk E1 hb; replace HB := zb HB hb; have E0 := n0_; clear n0_; clear hb hbox hg) | ((with_reducible refine gate_callee (f := 52) rfl ?_); refine goesL_ (some 38) rfl rfl Try.func52 (by kernel_rfl) rfl #[.int .i64 a1, .int .i64 a2] rfl (by (try simp only [List.map_toArray, List.map_cons, List.map_nil]); first | done | rfl | (simp only [List.length_drop, List.length_take]; rfl)) ?_; (with_reducible refine (kernel_Taps.calls k a1 a2 t217 t218 _ A13.out).mono ?_); rintro e w17 ⟨v219, rfl, ho0, hb⟩; refine ⟨_, rfl, ?_⟩; have HO220 := zl HB ho0; replace E1 := zk E1 hb; replace E0 := zk E0 hb; replace HB := zb HB hb; (try clear hb); (try clear ho0)) | ((with_reducible refine gate_callee (f := 52) rfl ?_); refine goesL_ (some 44) rfl rfl Try.func52 (by kernel_rfl) rfl #[.int .i64 a1, .int .i64 a3] rfl (by (try simp only [List.map_toArray, List.map_cons, List.map_nil]); first | done | rfl | (simp only [List.length_drop, List.length_take]; rfl)) ?_; (with_reducible refine (kernel_Taps.calls k a1 a3 t221 t222 _ A14.out).mono ?_); rintro e w18 ⟨v223, rfl, ho0, hb⟩; refine ⟨_, rfl, ?_⟩; have n0_ := Aside0.mk (Kd.R_elder' (by exact zr0 HO220) (Kd.R_base ho0) hb); have n1_ := Aside0.mk (Kd.R_lower (Kd.R_new' ho0 (Kd.R_lt (by exact zr0 HO220))) (below_size (by exact zb0 HB))); replace E1 := zk E1 hb; replace E0 := zk E0 hb; replace HB := zb HB hb; clear HO220; have HO220 := n0_; have HO224 := n1_; clear n0_ n1_; (try clear hb); (try clear ho0)) | ((with_reducible refine gate_dst (N := 14) rfl ?_); refine box_event ?hg (N := 14) ?hd (cs := #[.int .i64 0, .int .i64 0]) (t := 82) ?hr ?_; (case hd => rfl); (case hg => rfl); (case hr => first | (go_simp; done) | (go_simp; rfl)); intro G2 hg w19 hbox hb; have E0t := zg HB hg; have Q9 := zg HB hg; have E0a := zn E1 hg; have V0 := zn' E1 hg; have Z1 := zn E0 hg; have E8 := zn' E0 hg; have n0_ := Aside0.mk (hbox); replace HO220 := zr HO220 hb; replace HO224 := zr HO224 hb; replace E1 := zk E1 hb; replace E0 := zk E0 hb; replace HB := zb HB hb; have E2 := n0_; clear n0_; clear hb hbox hg) | ((with_reducible refine gate_dst (N := 15) rfl ?_); refine box_event ?hg (N := 15) ?hd (cs := #[.int .i64 0, .int .i64 0]) (t := 82) ?hr ?_; (case hd => rfl); (case hg => rfl); (case hr => first | (go_simp; done) | (go_simp; rfl)); intro G3 hg w20 hbox hb; have E0u := zg HB hg; have E0b := zg HB hg; have E0c := zn E1 hg; have V1 := zn' E1 hg; have Z2 := zn E0 hg; have E9 := zn' E0 hg; have V2 := zn E2 hg; have V3 := zn' E2 hg; have n0_ := Aside0.mk (hbox); replace HO220 := zr HO220 hb; replace HO224 := zr HO224 hb; replace E1 := zk E1 hb; replace E0 := zk E0 hb; replace E2 := zk E2 hb; replace HB := zb HB hb; have E3 := n0_; clear n0_; clear hb hbox hg) | ((with_reducible refine gate_dst (N := 16) rfl ?_); refine box_event ?hg (N := 16) ?hd (cs := #[.int .i64 0, .int .i64 0]) (t := 82) ?hr ?_; (case hd => rfl); (case hg => rfl); (case hr => first | (go_simp; done) | (go_simp; rfl)); intro G4 hg w21 hbox hb; have E0v := zg HB hg; have E0d := zg HB hg; have E0e := zn E1 hg; have V4 := zn' E1 hg; have Z3 := zn E0 hg; have G0 := zn' E0 hg; have V5 := zn E2 hg; have V6 := zn' E2 hg; have V7 := zn E3 hg; have V8 := zn' E3 hg; have n0_ := Aside0.mk (hbox); replace HO220 := zr HO220 hb; replace HO224 := zr HO224 hb; replace E1 := zk E1 hb; replace E0 := zk E0 hb; replace E2 := zk E2 hb; replace E3 := zk E3 hb; replace HB := zb HB hb; have E4 := n0_; clear n0_; clear hb hbox hg; obtain ⟨Ao22, co22, eo22⟩ := Kd.R_slice HO224.out; subst eo22))
 (try simp only [Act.put, sA, sB, sC])
 go_loopg [13, 49] k (fun kq v13 v49 w' => ∃ (x13_1 : Int) (x49_1 : Int) (x226000_1 : Int) (x226001_1 : Int) (x227000_1 : Int) (x227001_1 : Int) (x228000_1 : Int) (x228001_1 : Int), v13 = .int .i64 x13_1 ∧ v49 = .int .i64 x49_1 ∧ Aside0 (sample_source_at.l0 kq t217 t218 t221 x13_1 t222 (t222.length : Int) x49_1 a0_0 a0_1 l0_2 a0_3 x226000_1 x226001_1 x227000_1 x227001_1 x228000_1 x228001_1 = some (r1, r2, r3, r4)) ∧ Aside0 (kq ≤ k) ∧ Aside0 (Kd.R (Kd.int .i64) 3 w' w.heap.size (fun k_ => some k_ ≠ ((.slice Ao22 t222.length co22) : Value).ownBlock) v219 t218) ∧ Aside0 (Kd.R (Kd.int .i64) 3 w' w.heap.size (fun k_ => some k_ ≠ (v219 : Value).ownBlock) (.slice Ao22 t222.length co22) t222) ∧ Aside0 (w'.heap[Z0]? = some (.cells #[.int .i64 a0_0, .int .i64 a0_1, (.slice A0_2 l0_2.length c0_2), .bool a0_3] 60 (0, 0))) ∧ Aside0 (w'.heap[E7]? = some (.cells #[.int .i64 0, .int .i64 0, .int .i64 0, .int .i64 0] 37 (0, 0))) ∧ Aside0 (w'.heap[G2]? = some (.cells #[.int .i64 x226000_1, .int .i64 x226001_1] 82 (0, 0))) ∧ Aside0 (w'.heap[G3]? = some (.cells #[.int .i64 x227000_1, .int .i64 x227001_1] 82 (0, 0))) ∧ Aside0 (w'.heap[G4]? = some (.cells #[.int .i64 x228000_1, .int .i64 x228001_1] 82 (0, 0))) ∧ Aside0 (Below w.heap.size w w'))
 case atStart => exact ⟨(0), (0), (0), (0), (0), (0), (0), (0), (by first | rfl | (simp; done) | (simp [*]; done)), (by first | rfl | (simp; done) | (simp [*]; done)), H', ⟨Nat.le_refl _⟩, ⟨by (with_reducible repeat (first | apply Kd.R_alloc | apply Kd.R_drewN | apply Kd.R_drew)); exact Kd.R_mono HO220.out (fun _ hk => hk.2)⟩, ⟨by (with_reducible repeat (first | apply Kd.R_alloc | apply Kd.R_drewN | apply Kd.R_drew)); exact Kd.R_mono HO224.out (fun _ hk => hk.2)⟩, ⟨by exact zk0 E1⟩, ⟨by exact zk0 E0⟩, ⟨by exact zk0 E2⟩, ⟨by exact zk0 E3⟩, ⟨by exact zk0 E4⟩, ⟨by exact zb0 HB⟩⟩
 case round =>
  clear H'
  try clear c2
  try clear p2
  try clear q4
  try clear c5
  try clear Z6
  try clear Z7
  try clear c9
  try clear J4
  try clear J5
  try clear J6
  try clear J7
  try clear L2
  try clear L3
  try clear L4
  try clear L5
  try clear J8
  try clear J9
  try clear L0
  try clear L1
  try clear L6
  try clear L7
  try clear L8
  try clear L9
  obtain ⟨x13_1, x49_1, x226000_1, x226001_1, x227000_1, x227001_1, x228000_1, x228001_1, rfl, rfl, HA, HK1, E5, E6, E1, E0, E2, E3, E4, HB⟩ := hrel
  cases gk with
  | zero => exact absurd HA.out (by simp [sample_source_at.l0])
  | succ k1 =>
   have H := HA.out
   clear HA
   simp only [sample_source_at.l0] at H
   by_cases c23 : x49_1 < (t222.length : Int)
   ·rw [if_pos c23] at H
    have Q0 : decide (x49_1 < (t222.length : Int)) = true := decide_eq_true c23
    clear c23
    by_cases c24 : 0 ≤ x49_1
    rotate_left
    ·rw [if_neg c24] at H
     exact absurd H (by simp)
    rw [if_pos c24] at H
    have E0f : decide (0 ≤ x49_1) = true := decide_eq_true c24
    clear c24
    by_cases c25 : x49_1 < (t222.length : Int)
    rotate_left
    ·rw [if_neg c25] at H
     exact absurd H (by simp)
    rw [if_pos c25] at H
    have E0g : decide (x49_1 < (t222.length : Int)) = true := decide_eq_true c25
    clear c25
    have H' := Aside0.mk H
    clear H
    have p228 : 0 ≤ (x49_1 : Int) := of_decide_eq_true (by first | (with_reducible assumption) | assumption)
    have q228 : x49_1 < (t222.length : Int) := of_decide_eq_true (by first | (with_reducible assumption) | assumption)
    obtain ⟨Z8, e228, E0h⟩ := Kd.at_int (Kd.R_reads' E6.out).2.2 x49_1 p228 q228
    cases e228
    replace p228 := eq_true p228
    replace q228 := eq_true q228
    obtain ⟨Ao26, co26, eo26⟩ := Kd.R_slice E5.out
    subst eo26
    go_wp2
    go_loopg [19, 20, 21, 22, 56] k1 (fun kq v19 v20 v21 v22 v56 w' => ∃ (x19_2 : Int) (x20_2 : Int) (x21_2 : Int) (x22_2 : Int) (x56_2 : Int), v19 = .int .i64 x19_2 ∧ v20 = .int .i64 x20_2 ∧ v21 = .int .i64 x21_2 ∧ v22 = .int .i64 x22_2 ∧ v56 = .int .i64 x56_2 ∧ Aside0 (sample_source_at.l1 kq t217 t218 t221 x13_1 x49_1 (rd t222 x49_1) x19_2 x20_2 x21_2 x22_2 t222 (t222.length : Int) x49_1 t218 (t218.length : Int) x56_2 a0_0 a0_1 l0_2 a0_3 x226000_1 x226001_1 x227000_1 x227001_1 x228000_1 x228001_1 = some (r1, r2, r3, r4)) ∧ Aside0 (kq ≤ k1) ∧ Aside0 (Kd.R (Kd.int .i64) 3 w' w.heap.size (fun k_ => some k_ ≠ ((.slice (some Z8) t222.length co22) : Value).ownBlock) (.slice Ao26 t218.length co26) t218) ∧ Aside0 (Kd.R (Kd.int .i64) 3 w' w.heap.size (fun k_ => some k_ ≠ ((.slice Ao26 t218.length co26) : Value).ownBlock ∧ some k_ ≠ ((.slice Ao26 t218.length co26) : Value).ownBlock) (.slice (some Z8) t222.length co22) t222) ∧ Aside0 (Kd.R (Kd.int .i64) 3 w' w.heap.size (fun k_ => some k_ ≠ ((.slice (some Z8) t222.length co22) : Value).ownBlock) (.slice Ao26 t218.length co26) t218) ∧ Aside0 (w'.heap[Z0]? = some (.cells #[.int .i64 a0_0, .int .i64 a0_1, (.slice A0_2 l0_2.length c0_2), .bool a0_3] 60 (0, 0))) ∧ Aside0 (w'.heap[E7]? = some (.cells #[.int .i64 0, .int .i64 0, .int .i64 0, .int .i64 0] 37 (0, 0))) ∧ Aside0 (w'.heap[G2]? = some (.cells #[.int .i64 x226000_1, .int .i64 x226001_1] 82 (0, 0))) ∧ Aside0 (w'.heap[G3]? = some (.cells #[.int .i64 x227000_1, .int .i64 x227001_1] 82 (0, 0))) ∧ Aside0 (w'.heap[G4]? = some (.cells #[.int .i64 x228000_1, .int .i64 x228001_1] 82 (0, 0))) ∧ Aside0 (Below w.heap.size w w'))
    case atStart => exact ⟨(0), (0), (0), (0), (0), (by first | rfl | (simp; done) | (simp [*]; done)), (by first | rfl | (simp; done) | (simp [*]; done)), (by first | rfl | (simp; done) | (simp [*]; done)), (by first | rfl | (simp; done) | (simp [*]; done)), (by first | rfl | (simp; done) | (simp [*]; done)), H', ⟨Nat.le_refl _⟩, ⟨by exact zr0 E5⟩, ⟨by (with_reducible repeat (first | apply Kd.R_alloc | apply Kd.R_drewN | apply Kd.R_drew)); exact Kd.R_mono E6.out (fun _ hk => ⟨hk, hk⟩)⟩, ⟨by exact zr0 E5⟩, ⟨by exact zk0 E1⟩, ⟨by exact zk0 E0⟩, ⟨by exact zk0 E2⟩, ⟨by exact zk0 E3⟩, ⟨by exact zk0 E4⟩, ⟨by exact zb0 HB⟩⟩
    case round =>
     clear H'
     try clear c2
     try clear p2
     try clear q2
     try clear hx2
     try clear q4
     try clear c5
     try clear Z6
     try clear Z7
     try clear c9
     try clear p22
     try clear q22
     try clear hx22
     try clear c23
     try clear Q0
     try clear c24
     try clear E0f
     try clear c25
     try clear E0g
     try clear J4
     try clear J5
     try clear J6
     try clear J7
     try clear L2
     try clear L3
     try clear L4
     try clear L5
     try clear J8
     try clear J9
     try clear L0
     try clear L1
     try clear L6
     try clear L7
     try clear L8
     try clear L9
     try clear E0h
     try clear p2
     try clear p228
     try clear q228
     try clear q4
     obtain ⟨x19_2, x20_2, x21_2, x22_2, x56_2, rfl, rfl, rfl, rfl, rfl, HA, HK2, E5, E6, G1, E1, E0, E2, E3, E4, HB⟩ := hrel
     cases gk with
     | zero => exact absurd HA.out (by simp [sample_source_at.l1])
     | succ k2 =>
      have H := HA.out
      clear HA
      simp only [sample_source_at.l1] at H
      by_cases c27 : x56_2 < (t218.length : Int)
      rotate_left
      ·rw [if_neg c27] at H
       have E0i : decide (x56_2 < (t218.length : Int)) = false := decide_eq_false c27
       clear c27
       replace H := Option.bind_eq_some_iff.mp H
       obtain ⟨⟨t235, t236⟩, A440, H⟩ := H
       try dsimp only at H
       have A44 := Aside0.mk A440
       clear A440
       replace H := Option.bind_eq_some_iff.mp H
       obtain ⟨⟨t237, t238⟩, A450, H⟩ := H
       try dsimp only at H
       have A45 := Aside0.mk A450
       clear A450
       replace H := Option.bind_eq_some_iff.mp H
       obtain ⟨⟨t239, t240⟩, A460, H⟩ := H
       try dsimp only at H
       have A46 := Aside0.mk A460
       clear A460
       have H' := Aside0.mk H
       clear H
       have HI225 := Aside0.mk (show IsS82 w _ G2 x226000_1 x226001_1 from ⟨E2.out, Q9.out⟩)
       go_wp2_with (first | ((with_reducible refine gate_callee (f := 53) rfl ?_); refine goesL_ (some 110) rfl rfl Try.func53 (by kernel_rfl) rfl #[.pointer (some ⟨G2, 0, none⟩), .int .i64 (rd t222 x49_1), .int .i64 x20_2] rfl (by (try simp only [List.map_toArray, List.map_cons, List.map_nil]); first | done | rfl | (simp only [List.length_drop, List.length_take]; rfl)) ?_; (with_reducible refine (sample_sum_add.calls G2 x226000_1 x226001_1 (rd t222 x49_1) x20_2 t235 t236 w _ ?side1 ?side2 A44.out).mono ?_); (case side1 => repeat (first | (with_reducible first | exact HI225.out | apply IsS82.alloc | apply IsS82.drewN | apply IsS82.drew | apply IsS82.set_0 | apply IsS82.set_1 | refine IsS82.far ?_ V0.out _ | refine IsS82.far ?_ E8.out _ | refine IsS82.far ?_ V2.out _ | refine IsS82.far ?_ V5.out _) | exact HI225.out)); (case side2 => exact zb0 HB); rintro e w47 ⟨rfl, hi, hb, hk⟩; refine ⟨_, rfl, ?_⟩; have n0_ := Aside0.mk (Kd.R_mono (Kd.R_keep (IsS82.apart (show IsS82 w _ G2 x226000_1 x226001_1 from by repeat (first | (with_reducible first | exact HI225.out | apply IsS82.alloc | apply IsS82.drewN | apply IsS82.drew | apply IsS82.set_0 | apply IsS82.set_1 | refine IsS82.far ?_ V0.out _ | refine IsS82.far ?_ E8.out _ | refine IsS82.far ?_ V2.out _ | refine IsS82.far ?_ V5.out _) | exact HI225.out)) (by exact zr0 E5) (by decide)) hk (fun _ h => h.2)) (fun _ h => h.1)); have n1_ := Aside0.mk (Kd.R_mono (Kd.R_keep (IsS82.apart (show IsS82 w _ G2 x226000_1 x226001_1 from by repeat (first | (with_reducible first | exact HI225.out | apply IsS82.alloc | apply IsS82.drewN | apply IsS82.drew | apply IsS82.set_0 | apply IsS82.set_1 | refine IsS82.far ?_ V0.out _ | refine IsS82.far ?_ E8.out _ | refine IsS82.far ?_ V2.out _ | refine IsS82.far ?_ V5.out _) | exact HI225.out)) (by exact zr0 E6) (by decide)) hk (fun _ h => h.2)) (fun _ h => h.1)); have n2_ := Aside0.mk (Kd.R_mono (Kd.R_keep (IsS82.apart (show IsS82 w _ G2 x226000_1 x226001_1 from by repeat (first | (with_reducible first | exact HI225.out | apply IsS82.alloc | apply IsS82.drewN | apply IsS82.drew | apply IsS82.set_0 | apply IsS82.set_1 | refine IsS82.far ?_ V0.out _ | refine IsS82.far ?_ E8.out _ | refine IsS82.far ?_ V2.out _ | refine IsS82.far ?_ V5.out _) | exact HI225.out)) (by exact zr0 G1) (by decide)) hk (fun _ h => h.2)) (fun _ h => h.1)); have n3_ := Aside0.mk (KeepBut.blk hk (zk0 E1) (Ne.symm (IsS82.ne_blk (show IsS82 w _ G2 x226000_1 x226001_1 from by repeat (first | (with_reducible first | exact HI225.out | apply IsS82.alloc | apply IsS82.drewN | apply IsS82.drew | apply IsS82.set_0 | apply IsS82.set_1 | refine IsS82.far ?_ V0.out _ | refine IsS82.far ?_ E8.out _ | refine IsS82.far ?_ V2.out _ | refine IsS82.far ?_ V5.out _) | exact HI225.out)) (zk0 E1) (by decide))) (by simp)); have n4_ := Aside0.mk (KeepBut.blk hk (zk0 E0) (Ne.symm (IsS82.ne_blk (show IsS82 w _ G2 x226000_1 x226001_1 from by repeat (first | (with_reducible first | exact HI225.out | apply IsS82.alloc | apply IsS82.drewN | apply IsS82.drew | apply IsS82.set_0 | apply IsS82.set_1 | refine IsS82.far ?_ V0.out _ | refine IsS82.far ?_ E8.out _ | refine IsS82.far ?_ V2.out _ | refine IsS82.far ?_ V5.out _) | exact HI225.out)) (zk0 E0) (by decide))) (by simp)); have n5_ := Aside0.mk (KeepBut.blk hk (zk0 E3) V3.out (by simp)); have n6_ := Aside0.mk (KeepBut.blk hk (zk0 E4) V6.out (by simp)); have n7_ := Aside0.mk (hb); have n8_ := Aside0.mk (hi.1); clear E5; clear E6; clear G1; clear E1; clear E0; clear E3; clear E4; clear HB; clear E2; clear HI225; have E5 := n0_; have E6 := n1_; have G1 := n2_; have E1 := n3_; have E0 := n4_; have E3 := n5_; have E4 := n6_; have HB := n7_; have E2 := n8_; clear n0_ n1_ n2_ n3_ n4_ n5_ n6_ n7_ n8_; (try clear hb); (try clear hk); (try clear hi); have HI226 := Aside0.mk (show IsS82 w _ G3 x227000_1 x227001_1 from ⟨E3.out, E0b.out⟩)) | ((with_reducible refine gate_callee (f := 53) rfl ?_); refine goesL_ (some 113) rfl rfl Try.func53 (by kernel_rfl) rfl #[.pointer (some ⟨G3, 0, none⟩), .int .i64 (rd t222 x49_1), .int .i64 x21_2] rfl (by (try simp only [List.map_toArray, List.map_cons, List.map_nil]); first | done | rfl | (simp only [List.length_drop, List.length_take]; rfl)) ?_; (with_reducible refine (sample_sum_add.calls G3 x227000_1 x227001_1 (rd t222 x49_1) x21_2 t237 t238 w _ ?side1 ?side2 A45.out).mono ?_); (case side1 => repeat (first | (with_reducible first | exact HI226.out | apply IsS82.alloc | apply IsS82.drewN | apply IsS82.drew | apply IsS82.set_0 | apply IsS82.set_1 | refine IsS82.far ?_ V1.out _ | refine IsS82.far ?_ E9.out _ | refine IsS82.far ?_ V3.out _ | refine IsS82.far ?_ V7.out _) | exact HI226.out)); (case side2 => exact zb0 HB); rintro e w48 ⟨rfl, hi, hb, hk⟩; refine ⟨_, rfl, ?_⟩; have n0_ := Aside0.mk (Kd.R_mono (Kd.R_keep (IsS82.apart (show IsS82 w _ G3 x227000_1 x227001_1 from by repeat (first | (with_reducible first | exact HI226.out | apply IsS82.alloc | apply IsS82.drewN | apply IsS82.drew | apply IsS82.set_0 | apply IsS82.set_1 | refine IsS82.far ?_ V1.out _ | refine IsS82.far ?_ E9.out _ | refine IsS82.far ?_ V3.out _ | refine IsS82.far ?_ V7.out _) | exact HI226.out)) (by exact zr0 E5) (by decide)) hk (fun _ h => h.2)) (fun _ h => h.1)); have n1_ := Aside0.mk (Kd.R_mono (Kd.R_keep (IsS82.apart (show IsS82 w _ G3 x227000_1 x227001_1 from by repeat (first | (with_reducible first | exact HI226.out | apply IsS82.alloc | apply IsS82.drewN | apply IsS82.drew | apply IsS82.set_0 | apply IsS82.set_1 | refine IsS82.far ?_ V1.out _ | refine IsS82.far ?_ E9.out _ | refine IsS82.far ?_ V3.out _ | refine IsS82.far ?_ V7.out _) | exact HI226.out)) (by exact zr0 E6) (by decide)) hk (fun _ h => h.2)) (fun _ h => h.1)); have n2_ := Aside0.mk (Kd.R_mono (Kd.R_keep (IsS82.apart (show IsS82 w _ G3 x227000_1 x227001_1 from by repeat (first | (with_reducible first | exact HI226.out | apply IsS82.alloc | apply IsS82.drewN | apply IsS82.drew | apply IsS82.set_0 | apply IsS82.set_1 | refine IsS82.far ?_ V1.out _ | refine IsS82.far ?_ E9.out _ | refine IsS82.far ?_ V3.out _ | refine IsS82.far ?_ V7.out _) | exact HI226.out)) (by exact zr0 G1) (by decide)) hk (fun _ h => h.2)) (fun _ h => h.1)); have n3_ := Aside0.mk (KeepBut.blk hk (zk0 E1) (Ne.symm (IsS82.ne_blk (show IsS82 w _ G3 x227000_1 x227001_1 from by repeat (first | (with_reducible first | exact HI226.out | apply IsS82.alloc | apply IsS82.drewN | apply IsS82.drew | apply IsS82.set_0 | apply IsS82.set_1 | refine IsS82.far ?_ V1.out _ | refine IsS82.far ?_ E9.out _ | refine IsS82.far ?_ V3.out _ | refine IsS82.far ?_ V7.out _) | exact HI226.out)) (zk0 E1) (by decide))) (by simp)); have n4_ := Aside0.mk (KeepBut.blk hk (zk0 E0) (Ne.symm (IsS82.ne_blk (show IsS82 w _ G3 x227000_1 x227001_1 from by repeat (first | (with_reducible first | exact HI226.out | apply IsS82.alloc | apply IsS82.drewN | apply IsS82.drew | apply IsS82.set_0 | apply IsS82.set_1 | refine IsS82.far ?_ V1.out _ | refine IsS82.far ?_ E9.out _ | refine IsS82.far ?_ V3.out _ | refine IsS82.far ?_ V7.out _) | exact HI226.out)) (zk0 E0) (by decide))) (by simp)); have n5_ := Aside0.mk (KeepBut.blk hk (zk0 E2) V2.out (by simp)); have n6_ := Aside0.mk (KeepBut.blk hk (zk0 E4) V8.out (by simp)); have n7_ := Aside0.mk (hb); have n8_ := Aside0.mk (hi.1); clear E5; clear E6; clear G1; clear E1; clear E0; clear E2; clear E4; clear HB; clear E3; clear HI226; have E5 := n0_; have E6 := n1_; have G1 := n2_; have E1 := n3_; have E0 := n4_; have E2 := n5_; have E4 := n6_; have HB := n7_; have E3 := n8_; clear n0_ n1_ n2_ n3_ n4_ n5_ n6_ n7_ n8_; (try clear hb); (try clear hk); (try clear hi); have HI227 := Aside0.mk (show IsS82 w _ G4 x228000_1 x228001_1 from ⟨E4.out, E0d.out⟩)) | ((with_reducible refine gate_callee (f := 53) rfl ?_); refine goesL_ (some 116) rfl rfl Try.func53 (by kernel_rfl) rfl #[.pointer (some ⟨G4, 0, none⟩), .int .i64 (rd t222 x49_1), .int .i64 x22_2] rfl (by (try simp only [List.map_toArray, List.map_cons, List.map_nil]); first | done | rfl | (simp only [List.length_drop, List.length_take]; rfl)) ?_; (with_reducible refine (sample_sum_add.calls G4 x228000_1 x228001_1 (rd t222 x49_1) x22_2 t239 t240 w _ ?side1 ?side2 A46.out).mono ?_); (case side1 => repeat (first | (with_reducible first | exact HI227.out | apply IsS82.alloc | apply IsS82.drewN | apply IsS82.drew | apply IsS82.set_0 | apply IsS82.set_1 | refine IsS82.far ?_ V4.out _ | refine IsS82.far ?_ G0.out _ | refine IsS82.far ?_ V6.out _ | refine IsS82.far ?_ V8.out _) | exact HI227.out)); (case side2 => exact zb0 HB); rintro e w49 ⟨rfl, hi, hb, hk⟩; refine ⟨_, rfl, ?_⟩; have n0_ := Aside0.mk (Kd.R_mono (Kd.R_keep (IsS82.apart (show IsS82 w _ G4 x228000_1 x228001_1 from by repeat (first | (with_reducible first | exact HI227.out | apply IsS82.alloc | apply IsS82.drewN | apply IsS82.drew | apply IsS82.set_0 | apply IsS82.set_1 | refine IsS82.far ?_ V4.out _ | refine IsS82.far ?_ G0.out _ | refine IsS82.far ?_ V6.out _ | refine IsS82.far ?_ V8.out _) | exact HI227.out)) (by exact zr0 E5) (by decide)) hk (fun _ h => h.2)) (fun _ h => h.1)); have n1_ := Aside0.mk (Kd.R_mono (Kd.R_keep (IsS82.apart (show IsS82 w _ G4 x228000_1 x228001_1 from by repeat (first | (with_reducible first | exact HI227.out | apply IsS82.alloc | apply IsS82.drewN | apply IsS82.drew | apply IsS82.set_0 | apply IsS82.set_1 | refine IsS82.far ?_ V4.out _ | refine IsS82.far ?_ G0.out _ | refine IsS82.far ?_ V6.out _ | refine IsS82.far ?_ V8.out _) | exact HI227.out)) (by exact zr0 E6) (by decide)) hk (fun _ h => h.2)) (fun _ h => h.1)); have n2_ := Aside0.mk (Kd.R_mono (Kd.R_keep (IsS82.apart (show IsS82 w _ G4 x228000_1 x228001_1 from by repeat (first | (with_reducible first | exact HI227.out | apply IsS82.alloc | apply IsS82.drewN | apply IsS82.drew | apply IsS82.set_0 | apply IsS82.set_1 | refine IsS82.far ?_ V4.out _ | refine IsS82.far ?_ G0.out _ | refine IsS82.far ?_ V6.out _ | refine IsS82.far ?_ V8.out _) | exact HI227.out)) (by exact zr0 G1) (by decide)) hk (fun _ h => h.2)) (fun _ h => h.1)); have n3_ := Aside0.mk (KeepBut.blk hk (zk0 E1) (Ne.symm (IsS82.ne_blk (show IsS82 w _ G4 x228000_1 x228001_1 from by repeat (first | (with_reducible first | exact HI227.out | apply IsS82.alloc | apply IsS82.drewN | apply IsS82.drew | apply IsS82.set_0 | apply IsS82.set_1 | refine IsS82.far ?_ V4.out _ | refine IsS82.far ?_ G0.out _ | refine IsS82.far ?_ V6.out _ | refine IsS82.far ?_ V8.out _) | exact HI227.out)) (zk0 E1) (by decide))) (by simp)); have n4_ := Aside0.mk (KeepBut.blk hk (zk0 E0) (Ne.symm (IsS82.ne_blk (show IsS82 w _ G4 x228000_1 x228001_1 from by repeat (first | (with_reducible first | exact HI227.out | apply IsS82.alloc | apply IsS82.drewN | apply IsS82.drew | apply IsS82.set_0 | apply IsS82.set_1 | refine IsS82.far ?_ V4.out _ | refine IsS82.far ?_ G0.out _ | refine IsS82.far ?_ V6.out _ | refine IsS82.far ?_ V8.out _) | exact HI227.out)) (zk0 E0) (by decide))) (by simp)); have n5_ := Aside0.mk (KeepBut.blk hk (zk0 E2) V5.out (by simp)); have n6_ := Aside0.mk (KeepBut.blk hk (zk0 E3) V7.out (by simp)); have n7_ := Aside0.mk (hb); have n8_ := Aside0.mk (hi.1); clear E5; clear E6; clear G1; clear E1; clear E0; clear E2; clear E3; clear HB; clear E4; clear HI227; have E5 := n0_; have E6 := n1_; have G1 := n2_; have E1 := n3_; have E0 := n4_; have E2 := n5_; have E3 := n6_; have HB := n7_; have E4 := n8_; clear n0_ n1_ n2_ n3_ n4_ n5_ n6_ n7_ n8_; (try clear hb); (try clear hk); (try clear hi)))
       go_roundg k2
       case measure => have := HK1.out; have := HK2.out; omega
       case rel => exact ⟨(wrap64 (x13_1 + (wrap64 ((rd t222 x49_1) * x19_2)))), (wrap64 (x49_1 + 1)), (t235), (t236), (t237), (t238), (t239), (t240), (by first | rfl | (simp; done) | (simp [*]; done)), (by first | rfl | (simp; done) | (simp [*]; done)), H', ⟨by have := HK1.out; have := HK2.out; omega⟩, ⟨by exact zr0 E5⟩, ⟨by (with_reducible repeat (first | apply Kd.R_alloc | apply Kd.R_drewN | apply Kd.R_drew)); exact Kd.R_mono E6.out (fun _ hk => hk.1)⟩, ⟨by exact zk0 E1⟩, ⟨by exact zk0 E0⟩, ⟨by exact zk0 E2⟩, ⟨by exact zk0 E3⟩, ⟨by exact zk0 E4⟩, ⟨by exact zb0 HB⟩⟩
      rw [if_pos c27] at H
      have E0i : decide (x56_2 < (t218.length : Int)) = true := decide_eq_true c27
      clear c27
      by_cases c28 : 0 ≤ x56_2
      rotate_left
      ·rw [if_neg c28] at H
       exact absurd H (by simp)
      rw [if_pos c28] at H
      have E0w : decide (0 ≤ x56_2) = true := decide_eq_true c28
      clear c28
      by_cases c29 : x56_2 < (t218.length : Int)
      rotate_left
      ·rw [if_neg c29] at H
       exact absurd H (by simp)
      rw [if_pos c29] at H
      have E0x : decide (x56_2 < (t218.length : Int)) = true := decide_eq_true c29
      clear c29
      replace H := Option.bind_eq_some_iff.mp H
      obtain ⟨⟨t230, t231, t232, t233⟩, A300, H⟩ := H
      try dsimp only at H
      have A30 := Aside0.mk A300
      clear A300
      have H' := Aside0.mk H
      clear H
      have p229 : 0 ≤ (x56_2 : Int) := of_decide_eq_true (by first | (with_reducible assumption) | assumption)
      have q229 : x56_2 < (t218.length : Int) := of_decide_eq_true (by first | (with_reducible assumption) | assumption)
      obtain ⟨E0y, e229, E0z⟩ := Kd.at_int (Kd.R_reads' G1.out).2.2 x56_2 p229 q229
      cases e229
      replace p229 := eq_true p229
      replace q229 := eq_true q229
      have E0A := G6.out
      have E0B := G7.out
      have E0C := E0a.out
      have E0D := V0.out
      have E0E := E0c.out
      have E0F := V1.out
      have E0G := E0e.out
      have E0H := V4.out
      obtain ⟨E0I, E0J, E0K, E0L, E0M, E0N, E0O, E0P⟩ := zq4 E1
      go_wp2_with (first | ((with_reducible refine gate_callee (f := 51) rfl ?_); refine goesL_ (some 68) rfl rfl Try.func51 (by kernel_rfl) rfl #[.agg #[.int .i64 a0_0, .int .i64 a0_1, .slice A0_2 l0_2.length c0_2, .bool a0_3], .int .i64 (wrap64 (t217 + x56_2)), .int .i64 (wrap64 (t221 + x49_1))] rfl (by (try simp only [List.map_toArray, List.map_cons, List.map_nil]); first | done | rfl | (simp only [List.length_drop, List.length_take]; rfl)) ?_; (with_reducible refine (sample_source_get.calls k2 a0_0 a0_1 _ _ l0_2 a0_3 (wrap64 (t217 + x56_2)) (wrap64 (t221 + x49_1)) t230 t231 t232 t233 _ ?side1 ?side2 A30.out).mono ?_); (case side1 => repeat (first | exact (Kd.C_below J2.out HB.out) | (with_reducible refine Kd.C_alloc ?_ _) | (with_reducible refine Kd.C_drewN ?_ _) | (with_reducible refine Kd.C_drew ?_))); (case side2 => exact J3.out); rintro e w36 ⟨rfl, hb⟩; refine ⟨_, rfl, ?_⟩; replace E5 := zr E5 hb; replace E6 := zr E6 hb; replace G1 := zr G1 hb; replace E1 := zk E1 hb; replace E0 := zk E0 hb; replace E2 := zk E2 hb; replace E3 := zk E3 hb; replace E4 := zk E4 hb; replace HB := zb HB hb; (try clear hb)) | ((with_reducible refine gate_dst (N := 25) rfl ?_); refine box_event ?hg (N := 25) ?hd (cs := #[.int .i64 0, .int .i64 0, .int .i64 0, .int .i64 0]) (t := 37) ?hr ?_; (case hd => rfl); (case hg => rfl); (case hr => first | (go_simp; done) | (go_simp; rfl)); intro E0Q hg w37 hbox hb; have E0R := zg HB hg; have E0j := zg HB hg; have Q1 := zn E1 hg; have E0k := zn' E1 hg; have Q2 := zn E0 hg; have E0l := zn' E0 hg; have Q3 := zn E2 hg; have E0m := zn' E2 hg; have Q4 := zn E3 hg; have E0n := zn' E3 hg; have Q5 := zn E4 hg; have E0o := zn' E4 hg; have n0_ := Aside0.mk (hbox); replace E5 := zr E5 hb; replace E6 := zr E6 hb; replace G1 := zr G1 hb; replace E1 := zk E1 hb; replace E0 := zk E0 hb; replace E2 := zk E2 hb; replace E3 := zk E3 hb; replace E4 := zk E4 hb; replace HB := zb HB hb; have Z5 := n0_; clear n0_; clear hb hbox hg; have E0S := E0k.out; have E0T := Q1.out; have E0U := E0l.out; have E0V := Q2.out; have E0W := E0m.out; have E0X := Q3.out; have E0Y := E0n.out; have E0Z := Q4.out; have E1a := E0o.out; have E1b := Q5.out; obtain ⟨E1c, E1d, E1e, E1f, E1g, E1h, E1i, E1j⟩ := zq4 Z5))
      go_roundg k2
      case measure => have := HK1.out; have := HK2.out; omega
      case rel => exact ⟨(wrap64 (x19_2 + (wrap64 ((rd t218 x56_2) * t233)))), (wrap64 (x20_2 + (wrap64 ((wrap64 ((rd t218 x56_2) * t230)) * t233)))), (wrap64 (x21_2 + (wrap64 ((wrap64 ((rd t218 x56_2) * t231)) * t233)))), (wrap64 (x22_2 + (wrap64 ((wrap64 ((rd t218 x56_2) * t232)) * t233)))), (wrap64 (x56_2 + 1)), (by first | rfl | (simp; done) | (simp [*]; done)), (by first | rfl | (simp; done) | (simp [*]; done)), (by first | rfl | (simp; done) | (simp [*]; done)), (by first | rfl | (simp; done) | (simp [*]; done)), (by first | rfl | (simp; done) | (simp [*]; done)), H', ⟨by have := HK1.out; have := HK2.out; omega⟩, ⟨by exact zro E5 Z5 (by decide)⟩, ⟨by exact zro E6 Z5 (by decide)⟩, ⟨by exact zro G1 Z5 (by decide)⟩, ⟨by exact zf E1 Q1⟩, ⟨by exact zf E0 Q2⟩, ⟨by exact zf E2 Q3⟩, ⟨by exact zf E3 Q4⟩, ⟨by exact zf E4 Q5⟩, ⟨by exact zbo HB E0j⟩⟩
   rw [if_neg c23] at H
   have Q0 : decide (x49_1 < (t222.length : Int)) = false := decide_eq_false c23
   clear c23
   replace H := Option.bind_eq_some_iff.mp H
   obtain ⟨t241, A500, H⟩ := H
   try dsimp only at H
   have A50 := Aside0.mk A500
   clear A500
   replace H := Option.bind_eq_some_iff.mp H
   obtain ⟨t242, A510, H⟩ := H
   try dsimp only at H
   have A51 := Aside0.mk A510
   clear A510
   by_cases c52 : t242 = 0
   ·rw [if_pos c52] at H
    have E0p : (t242 == 0) = true := beq_iff_eq.mpr c52
    have E0q : (t242 != 0) = false := bne_eq_false_iff_eq.mpr c52
    clear c52
    simp only [Option.some.injEq, Prod.mk.injEq] at H
    obtain ⟨rfl, rfl, rfl, rfl⟩ := H
    go_wp2_with (first | ((with_reducible refine gate_callee (f := 39) rfl ?_); refine goesL_ (some 119) rfl rfl Try.func39 (by kernel_rfl) rfl #[.int .i64 x13_1, .int .i64 4294967296] rfl (by (try simp only [List.map_toArray, List.map_cons, List.map_nil]); first | done | rfl | (simp only [List.length_drop, List.length_take]; rfl)) ?_; (with_reducible refine (num_Div.calls k1 x13_1 4294967296 t241 _ A50.out).mono ?_); rintro e w' ⟨rfl, ⟨nd, rfl⟩⟩; refine ⟨_, rfl, ?_⟩; (try (rw [drewN_self wr]; generalize hq_ : World.drewN wr _ = wr; have n0_ : Aside0 (Kd.R (Kd.int .i64) 3 wr w.heap.size (fun k_ => some k_ ≠ (.slice Ao22 t222.length co22 : Value).ownBlock) v219 t218) := ⟨by rw [← hq_]; exact (by exact zr0 E5)⟩; have n1_ : Aside0 (Kd.R (Kd.int .i64) 3 wr w.heap.size (fun k_ => some k_ ≠ (v219 : Value).ownBlock) (.slice Ao22 t222.length co22) t222) := ⟨by rw [← hq_]; exact (by exact zr0 E6)⟩; have n2_ : Aside0 (wr.heap[Z0]? = some (.cells #[.int .i64 a0_0, .int .i64 a0_1, .slice A0_2 l0_2.length c0_2, .bool a0_3] 60 (0, 0))) := ⟨by rw [← hq_]; exact (by exact zk0 E1)⟩; have n3_ : Aside0 (wr.heap[E7]? = some (.cells #[.int .i64 0, .int .i64 0, .int .i64 0, .int .i64 0] 37 (0, 0))) := ⟨by rw [← hq_]; exact (by exact zk0 E0)⟩; have n4_ : Aside0 (wr.heap[G2]? = some (.cells #[.int .i64 x226000_1, .int .i64 x226001_1] 82 (0, 0))) := ⟨by rw [← hq_]; exact (by exact zk0 E2)⟩; have n5_ : Aside0 (wr.heap[G3]? = some (.cells #[.int .i64 x227000_1, .int .i64 x227001_1] 82 (0, 0))) := ⟨by rw [← hq_]; exact (by exact zk0 E3)⟩; have n6_ : Aside0 (wr.heap[G4]? = some (.cells #[.int .i64 x228000_1, .int .i64 x228001_1] 82 (0, 0))) := ⟨by rw [← hq_]; exact (by exact zk0 E4)⟩; have n7_ : Aside0 (Below w.heap.size w wr) := ⟨by rw [← hq_]; exact (by exact zb0 HB)⟩; clear E5 E6 E1 E0 E2 E3 E4 HB hq_; have E5 := n0_; have E6 := n1_; have E1 := n2_; have E0 := n3_; have E2 := n4_; have E3 := n5_; have E4 := n6_; have HB := n7_; clear n0_ n1_ n2_ n3_ n4_ n5_ n6_ n7_))) | ((with_reducible refine gate_callee (f := 54) rfl ?_); refine goesL_ (some 120) rfl rfl Try.func54 (by kernel_rfl) rfl #[.int .i64 t241, .int .i64 0, .int .i64 65535] rfl (by (try simp only [List.map_toArray, List.map_cons, List.map_nil]); first | done | rfl | (simp only [List.length_drop, List.length_take]; rfl)) ?_; (with_reducible refine (num_Clamp.calls t241 0 65535 t242 _ A51.out).mono ?_); rintro e w53 ⟨rfl, hb⟩; refine ⟨_, rfl, ?_⟩; replace E5 := zr E5 hb; replace E6 := zr E6 hb; replace E1 := zk E1 hb; replace E0 := zk E0 hb; replace E2 := zk E2 hb; replace E3 := zk E3 hb; replace E4 := zk E4 hb; replace HB := zb HB hb; (try clear hb); have E1k := G7.out; have E1l := G6.out; have E1m := Z1.out; have E1n := E8.out; have E1o := Z2.out; have E1p := E9.out; have E1q := Z3.out; have E1r := G0.out; obtain ⟨E1s, E1t, E1u, E1v, E1w, E1x, E1y, E1z⟩ := zq4 E0))
    refine bodyPost_ret (results_cell_row rfl _ _ E7 37 #[.int .i64 0, .int .i64 0, .int .i64 0, .int .i64 0] (0, 0) _ rfl (by exact zp E0 rfl) Try.underlying37 rfl (by kernel_rfl)) rfl ?_
    exact ⟨by first | rfl | (simp [errW_none, errW_some] <;> rfl) | (simp [*, errW_none, errW_some] <;> rfl), by exact zbo HB Z4⟩
   rw [if_neg c52] at H
   have E0p : (t242 == 0) = false := beq_eq_false_iff_ne.mpr c52
   have E0q : (t242 != 0) = true := bne_iff_ne.mpr c52
   replace H := Option.bind_eq_some_iff.mp H
   obtain ⟨t243, A590, H⟩ := H
   try dsimp only at H
   have A59 := Aside0.mk A590
   clear A590
   replace H := Option.bind_eq_some_iff.mp H
   obtain ⟨t244, A600, H⟩ := H
   try dsimp only at H
   have A60 := Aside0.mk A600
   clear A600
   replace H := Option.bind_eq_some_iff.mp H
   obtain ⟨t245, A610, H⟩ := H
   try dsimp only at H
   have A61 := Aside0.mk A610
   clear A610
   simp only [Option.some.injEq, Prod.mk.injEq] at H
   obtain ⟨rfl, rfl, rfl, rfl⟩ := H
   try go_wp2_with (first | ((with_reducible refine gate_callee (f := 39) rfl ?_); refine goesL_ (some 119) rfl rfl Try.func39 (by kernel_rfl) rfl #[.int .i64 x13_1, .int .i64 4294967296] rfl (by (try simp only [List.map_toArray, List.map_cons, List.map_nil]); first | done | rfl | (simp only [List.length_drop, List.length_take]; rfl)) ?_; (with_reducible refine (num_Div.calls k1 x13_1 4294967296 t241 _ A50.out).mono ?_); rintro e w' ⟨rfl, ⟨nd, rfl⟩⟩; refine ⟨_, rfl, ?_⟩; (try (rw [drewN_self wr]; generalize hq_ : World.drewN wr _ = wr; have n0_ : Aside0 (Kd.R (Kd.int .i64) 3 wr w.heap.size (fun k_ => some k_ ≠ (.slice Ao22 t222.length co22 : Value).ownBlock) v219 t218) := ⟨by rw [← hq_]; exact (by exact zr0 E5)⟩; have n1_ : Aside0 (Kd.R (Kd.int .i64) 3 wr w.heap.size (fun k_ => some k_ ≠ (v219 : Value).ownBlock) (.slice Ao22 t222.length co22) t222) := ⟨by rw [← hq_]; exact (by exact zr0 E6)⟩; have n2_ : Aside0 (wr.heap[Z0]? = some (.cells #[.int .i64 a0_0, .int .i64 a0_1, .slice A0_2 l0_2.length c0_2, .bool a0_3] 60 (0, 0))) := ⟨by rw [← hq_]; exact (by exact zk0 E1)⟩; have n3_ : Aside0 (wr.heap[E7]? = some (.cells #[.int .i64 0, .int .i64 0, .int .i64 0, .int .i64 0] 37 (0, 0))) := ⟨by rw [← hq_]; exact (by exact zk0 E0)⟩; have n4_ : Aside0 (wr.heap[G2]? = some (.cells #[.int .i64 x226000_1, .int .i64 x226001_1] 82 (0, 0))) := ⟨by rw [← hq_]; exact (by exact zk0 E2)⟩; have n5_ : Aside0 (wr.heap[G3]? = some (.cells #[.int .i64 x227000_1, .int .i64 x227001_1] 82 (0, 0))) := ⟨by rw [← hq_]; exact (by exact zk0 E3)⟩; have n6_ : Aside0 (wr.heap[G4]? = some (.cells #[.int .i64 x228000_1, .int .i64 x228001_1] 82 (0, 0))) := ⟨by rw [← hq_]; exact (by exact zk0 E4)⟩; have n7_ : Aside0 (Below w.heap.size w wr) := ⟨by rw [← hq_]; exact (by exact zb0 HB)⟩; clear E5 E6 E1 E0 E2 E3 E4 HB hq_; have E5 := n0_; have E6 := n1_; have E1 := n2_; have E0 := n3_; have E2 := n4_; have E3 := n5_; have E4 := n6_; have HB := n7_; clear n0_ n1_ n2_ n3_ n4_ n5_ n6_ n7_))) | ((with_reducible refine gate_callee (f := 54) rfl ?_); refine goesL_ (some 120) rfl rfl Try.func54 (by kernel_rfl) rfl #[.int .i64 t241, .int .i64 0, .int .i64 65535] rfl (by (try simp only [List.map_toArray, List.map_cons, List.map_nil]); first | done | rfl | (simp only [List.length_drop, List.length_take]; rfl)) ?_; (with_reducible refine (num_Clamp.calls t241 0 65535 t242 _ A51.out).mono ?_); rintro e w62 ⟨rfl, hb⟩; refine ⟨_, rfl, ?_⟩; replace E5 := zr E5 hb; replace E6 := zr E6 hb; replace E1 := zk E1 hb; replace E0 := zk E0 hb; replace E2 := zk E2 hb; replace E3 := zk E3 hb; replace E4 := zk E4 hb; replace HB := zb HB hb; (try clear hb)))
   replace E5 := zrd E5
   replace E6 := zrd E6
   replace E1 := zkd E1
   replace E0 := zkd E0
   replace E2 := zkd E2
   replace E3 := zkd E3
   replace E4 := zkd E4
   replace HB := zbd HB
   refine start_ (n := 12) (S := fun w' => w'.cell? ⟨G2, 0, none⟩ = some (.int .i64 x226000_1) ∧ w'.cell? ⟨G2, 1, none⟩ = some (.int .i64 x226001_1) ∧ w'.cell? ⟨G3, 0, none⟩ = some (.int .i64 x227000_1) ∧ w'.cell? ⟨G3, 1, none⟩ = some (.int .i64 x227001_1) ∧ w'.cell? ⟨G4, 0, none⟩ = some (.int .i64 x228000_1) ∧ w'.cell? ⟨G4, 1, none⟩ = some (.int .i64 x228001_1)) (ds := []) (bs 12 0) (by kernel_rfl) rfl rfl ⟨(blk_cell E2.out 0).trans rfl, (blk_cell E2.out 1).trans rfl, (blk_cell E3.out 0).trans rfl, (blk_cell E3.out 1).trans rfl, (blk_cell E4.out 0).trans rfl, (blk_cell E4.out 1).trans rfl⟩ (fun hHeld => ?_); refine with_tabW sample_source_at.tab28 sample_source_at.bits28 (fun HT_ HW_ => ?_)
   generalize w62.drew = w63 at E5 E6 E1 E0 E2 E3 E4 HB hHeld ⊢
   refine pure_ (i := 1) (N := some 125) (v := ?_) (a' := ?_) (bs 12 2) rfl rfl (any_of HT_.out (by kernel_rfl)) (fun _ _ _ h => h) (Or.inl ⟨by rfl, ?_⟩) ?_ ?_
   rotate_left
   ·intro w'
    go_simp
    with_reducible rfl
   rotate_left
   ·simp only [Act.put, sA, sB, sC, i64_w, i32_w]
    rfl
   refine pure_ (i := 4) (N := some 128) (v := ?_) (a' := ?_) (bs 12 18) rfl rfl (any_of HT_.out (by kernel_rfl)) (fun _ _ _ h => h) (Or.inl ⟨by rfl, ?_⟩) ?_ ?_
   rotate_left
   ·intro w'
    go_simp
    with_reducible rfl
   rotate_left
   ·simp only [Act.put, sA, sB, sC, i64_w, i32_w]
    rfl
   refine pure_ (i := 7) (N := some 131) (v := ?_) (a' := ?_) (bs 12 146) rfl rfl (any_of HT_.out (by kernel_rfl)) (fun _ _ _ h => h) (Or.inl ⟨by rfl, ?_⟩) ?_ ?_
   rotate_left
   ·intro w'
    go_simp
    with_reducible rfl
   rotate_left
   ·simp only [Act.put, sA, sB, sC, i64_w, i32_w]
    rfl
   refine pure_ (i := 9) (N := some 133) (v := ?_) (a' := ?_) (bs 12 658) rfl rfl (any_of HT_.out (by kernel_rfl)) (fun _ _ _ h => h) (Or.inl ⟨by rfl, ?_⟩) ?_ ?_
   rotate_left
   ·intro w'
    go_simp
    with_reducible rfl
   rotate_left
   ·simp only [Act.put, sA, sB, sC, i64_w, i32_w]
    rfl
   refine take_ (i := 0) (N := some 124) (v := ?_) (a' := ?_) (bs 12 659) rfl rfl (take_ofW HT_.out HW_.out (by kernel_rfl)) (fun _ _ _ h => h) (Or.inl ⟨by rfl, ?_⟩) hHeld ?_ ?_
   rotate_left
   ·rintro w' ⟨s0, s1, s2, s3, s4, s5⟩
    go_simp
    with_reducible rfl
   rotate_left
   ·simp only [Act.put, sA, sB, sC, i64_w, i32_w]
    rfl
   refine take_ (i := 3) (N := some 127) (v := ?_) (a' := ?_) (bs 12 667) rfl rfl (take_ofW HT_.out HW_.out (by kernel_rfl)) (fun _ _ _ h => h) (Or.inl ⟨by rfl, ?_⟩) hHeld ?_ ?_
   rotate_left
   ·rintro w' ⟨s0, s1, s2, s3, s4, s5⟩
    go_simp
    with_reducible rfl
   rotate_left
   ·simp only [Act.put, sA, sB, sC, i64_w, i32_w]
    rfl
   refine take_ (i := 6) (N := some 130) (v := ?_) (a' := ?_) (bs 12 731) rfl rfl (take_ofW HT_.out HW_.out (by kernel_rfl)) (fun _ _ _ h => h) (Or.inl ⟨by rfl, ?_⟩) hHeld ?_ ?_
   rotate_left
   ·rintro w' ⟨s0, s1, s2, s3, s4, s5⟩
    go_simp
    with_reducible rfl
   rotate_left
   ·simp only [Act.put, sA, sB, sC, i64_w, i32_w]
    rfl
   refine one_ (i := 2) (N := some 126) (bs 12 735) rfl rfl (one_of HT_.out (by kernel_rfl)) (by decide) (fun K hK => ?_)
   refine goes_ Try.func55 (by kernel_rfl) rfl #[.agg #[.int .i64 x226000_1, .int .i64 x226001_1], .int .i64 x13_1] (by rfl) rfl rfl (by (try simp only [List.map_toArray, List.map_cons, List.map_nil]); first | done | rfl | (simp only [List.length_drop, List.length_take]; rfl)) ?_
   with_reducible refine (sample_sum_over.calls k1 x226000_1 x226001_1 x13_1 t243 _ A59.out).mono ?_
   rintro e w64 ⟨rfl, hb⟩
   refine ⟨_, rfl, ?_⟩
   replace E5 := zr E5 hb
   replace E6 := zr E6 hb
   replace E1 := zk E1 hb
   replace E0 := zk E0 hb
   replace E2 := zk E2 hb
   replace E3 := zk E3 hb
   replace E4 := zk E4 hb
   replace HB := zb HB hb
   (try clear hb)
   (try clear hb2)
   (try clear hk)
   (try clear hi)
   refine hK.out _ _ ⟨(blk_cell E2.out 0).trans rfl, (blk_cell E2.out 1).trans rfl, (blk_cell E3.out 0).trans rfl, (blk_cell E3.out 1).trans rfl, (blk_cell E4.out 0).trans rfl, (blk_cell E4.out 1).trans rfl⟩ (fun hHeld => ?_)
   clear hK K
   refine norm_ (a' := ?_) ?_ ?_
   rotate_left
   ·show Act.put _ (some 126) _ = _
    simp only [Act.put, sA, sB, sC, i64_w, i32_w]
    rfl
   refine one_ (i := 5) (N := some 129) (bs 12 767) rfl rfl (one_of HT_.out (by kernel_rfl)) (by decide) (fun K hK => ?_)
   refine goes_ Try.func55 (by kernel_rfl) rfl #[.agg #[.int .i64 x227000_1, .int .i64 x227001_1], .int .i64 x13_1] (by rfl) rfl rfl (by (try simp only [List.map_toArray, List.map_cons, List.map_nil]); first | done | rfl | (simp only [List.length_drop, List.length_take]; rfl)) ?_
   with_reducible refine (sample_sum_over.calls k1 x227000_1 x227001_1 x13_1 t244 _ A60.out).mono ?_
   rintro e w65 ⟨rfl, hb⟩
   refine ⟨_, rfl, ?_⟩
   replace E5 := zr E5 hb
   replace E6 := zr E6 hb
   replace E1 := zk E1 hb
   replace E0 := zk E0 hb
   replace E2 := zk E2 hb
   replace E3 := zk E3 hb
   replace E4 := zk E4 hb
   replace HB := zb HB hb
   (try clear hb)
   (try clear hb2)
   (try clear hk)
   (try clear hi)
   refine hK.out _ _ ⟨(blk_cell E2.out 0).trans rfl, (blk_cell E2.out 1).trans rfl, (blk_cell E3.out 0).trans rfl, (blk_cell E3.out 1).trans rfl, (blk_cell E4.out 0).trans rfl, (blk_cell E4.out 1).trans rfl⟩ (fun hHeld => ?_)
   clear hK K
   refine norm_ (a' := ?_) ?_ ?_
   rotate_left
   ·show Act.put _ (some 129) _ = _
    simp only [Act.put, sA, sB, sC, i64_w, i32_w]
    rfl
   refine one_ (i := 8) (N := some 132) (bs 12 1023) rfl rfl (one_of HT_.out (by kernel_rfl)) (by decide) (fun K hK => ?_)
   refine goes_ Try.func55 (by kernel_rfl) rfl #[.agg #[.int .i64 x228000_1, .int .i64 x228001_1], .int .i64 x13_1] (by rfl) rfl rfl (by (try simp only [List.map_toArray, List.map_cons, List.map_nil]); first | done | rfl | (simp only [List.length_drop, List.length_take]; rfl)) ?_
   with_reducible refine (sample_sum_over.calls k1 x228000_1 x228001_1 x13_1 t245 _ A61.out).mono ?_
   rintro e w66 ⟨rfl, hb⟩
   refine ⟨_, rfl, ?_⟩
   replace E5 := zr E5 hb
   replace E6 := zr E6 hb
   replace E1 := zk E1 hb
   replace E0 := zk E0 hb
   replace E2 := zk E2 hb
   replace E3 := zk E3 hb
   replace E4 := zk E4 hb
   replace HB := zb HB hb
   (try clear hb)
   (try clear hb2)
   (try clear hk)
   (try clear hi)
   refine hK.out _ _ ⟨(blk_cell E2.out 0).trans rfl, (blk_cell E2.out 1).trans rfl, (blk_cell E3.out 0).trans rfl, (blk_cell E3.out 1).trans rfl, (blk_cell E4.out 0).trans rfl, (blk_cell E4.out 1).trans rfl⟩ (fun hHeld => ?_)
   clear hK K
   refine norm_ (a' := ?_) ?_ ?_
   rotate_left
   ·show Act.put _ (some 132) _ = _
    simp only [Act.put, sA, sB, sC, i64_w, i32_w]
    rfl
   refine pure_ (i := 10) (N := some 134) (v := ?_) (a' := ?_) (bs 12 2047) rfl rfl (any_of HT_.out (by kernel_rfl)) (fun _ _ _ h => h) (Or.inl ⟨by rfl, ?_⟩) ?_ ?_
   rotate_left
   ·intro w'
    go_simp
    with_reducible rfl
   rotate_left
   ·simp only [Act.put, sA, sB, sC, i64_w, i32_w]
    rfl
   refine one_ (i := 11) (N := none) (bs 12 4095) rfl rfl (one_of HT_.out (by kernel_rfl)) (by decide) (fun K hK => ?_)
   have hs67 : w66.cell? ⟨E7, 0, none⟩ = some (.int .i64 0) := (blk_cell E0.out 0).trans rfl
   have hfs67 := blk_frozen E0.out 0
   have E1A := G6.out
   have E1B := E8.out
   have E1C := E9.out
   have E1D := G0.out
   have E1E := G7.out
   have E1F := Z1.out
   have E1G := Z2.out
   have E1H := Z3.out
   have hs68 : w66.cell? ⟨E7, 1, none⟩ = some (.int .i64 0) := (blk_cell E0.out 1).trans rfl
   have hfs68 := blk_frozen E0.out 1
   have E1I := G6.out
   have E1J := E8.out
   have E1K := E9.out
   have E1L := G0.out
   have E1M := G7.out
   have E1N := Z1.out
   have E1O := Z2.out
   have E1P := Z3.out
   have hs69 : w66.cell? ⟨E7, 2, none⟩ = some (.int .i64 0) := (blk_cell E0.out 2).trans rfl
   have hfs69 := blk_frozen E0.out 2
   have E1Q := G6.out
   have E1R := E8.out
   have E1S := E9.out
   have E1T := G0.out
   have E1U := G7.out
   have E1V := Z1.out
   have E1W := Z2.out
   have E1X := Z3.out
   have hs70 : w66.cell? ⟨E7, 3, none⟩ = some (.int .i64 0) := (blk_cell E0.out 3).trans rfl
   have hfs70 := blk_frozen E0.out 3
   have E1Y := G6.out
   have E1Z := E8.out
   have E2a := E9.out
   have E2b := G0.out
   have E2c := G7.out
   have E2d := Z1.out
   have E2e := Z2.out
   have E2f := Z3.out
   refine skip_ (w1 := ?_) (by rfl) rfl ?_ ?_
   rotate_left
   ·go_simp
    rfl
   refine hK.out _ _ ⟨((cell_far (p := ⟨E7, _, none⟩) E8.out _).trans (((cell_far (p := ⟨E7, _, none⟩) E8.out _).trans (((cell_far (p := ⟨E7, _, none⟩) E8.out _).trans (((cell_far (p := ⟨E7, _, none⟩) E8.out _).trans (hHeld.1)))))))), ((cell_far (p := ⟨E7, _, none⟩) E8.out _).trans (((cell_far (p := ⟨E7, _, none⟩) E8.out _).trans (((cell_far (p := ⟨E7, _, none⟩) E8.out _).trans (((cell_far (p := ⟨E7, _, none⟩) E8.out _).trans (hHeld.2.1)))))))), ((cell_far (p := ⟨E7, _, none⟩) E9.out _).trans (((cell_far (p := ⟨E7, _, none⟩) E9.out _).trans (((cell_far (p := ⟨E7, _, none⟩) E9.out _).trans (((cell_far (p := ⟨E7, _, none⟩) E9.out _).trans (hHeld.2.2.1)))))))), ((cell_far (p := ⟨E7, _, none⟩) E9.out _).trans (((cell_far (p := ⟨E7, _, none⟩) E9.out _).trans (((cell_far (p := ⟨E7, _, none⟩) E9.out _).trans (((cell_far (p := ⟨E7, _, none⟩) E9.out _).trans (hHeld.2.2.2.1)))))))), ((cell_far (p := ⟨E7, _, none⟩) G0.out _).trans (((cell_far (p := ⟨E7, _, none⟩) G0.out _).trans (((cell_far (p := ⟨E7, _, none⟩) G0.out _).trans (((cell_far (p := ⟨E7, _, none⟩) G0.out _).trans (hHeld.2.2.2.2.1)))))))), ((cell_far (p := ⟨E7, _, none⟩) G0.out _).trans (((cell_far (p := ⟨E7, _, none⟩) G0.out _).trans (((cell_far (p := ⟨E7, _, none⟩) G0.out _).trans (((cell_far (p := ⟨E7, _, none⟩) G0.out _).trans (hHeld.2.2.2.2.2))))))))⟩ (fun hHeld => ?_)
   clear hK K
   refine done_ (done_of HT_.out (by kernel_rfl)) ?_
   try go_wp2
   refine bodyPost_ret (results_cell_row rfl _ _ E7 37 #[.int .i64 t243, .int .i64 t244, .int .i64 t245, .int .i64 t242] (0, 0) _ rfl (by exact zp E0 rfl) Try.underlying37 rfl (by kernel_rfl)) rfl ?_
   exact ⟨by first | rfl | (simp [errW_none, errW_some] <;> rfl) | (simp [*, errW_none, errW_some] <;> rfl), by exact zbo HB Z4⟩

/-! ### sample_limit: function 29 -/
def sample_limit.f (a0 : Int) : Option (Int) := (num_Clamp.f a0 (-1099511627776) 1099511627776).bind fun t246 => (some t246)
set_option maxHeartbeats 8000000 in
set_option maxRecDepth 100000 in
theorem sample_limit.calls (a0 : Int) (r : Int) (w : World) (h : sample_limit.f a0 = some r) :
  Calls Try.prog 29 #[.int .i64 a0] w fun e w' => e = .returned (.int .i64 r) ∧ Below w.heap.size w w' := by
 have HB := Aside0.mk (Below.refl w.heap.size w)
 have H : ((num_Clamp.f a0 (-1099511627776) 1099511627776).bind fun t246 => (some t246)) = some r := h
 clear h
 replace H := Option.bind_eq_some_iff.mp H
 obtain ⟨t246, A20, H⟩ := H
 try dsimp only at H
 have A2 := Aside0.mk A20
 clear A20
 obtain rfl := Option.some.inj H
 go_enter Try.func29, Try.ntmps29
 go_wp2_with (first | ((with_reducible refine gate_callee (f := 54) rfl ?_); refine goesL_ (some 4) rfl rfl Try.func54 (by kernel_rfl) rfl #[.int .i64 a0, .int .i64 (-1099511627776), .int .i64 1099511627776] rfl (by (try simp only [List.map_toArray, List.map_cons, List.map_nil]); first | done | rfl | (simp only [List.length_drop, List.length_take]; rfl)) ?_; (with_reducible refine (num_Clamp.calls a0 (-1099511627776) 1099511627776 t246 _ A2.out).mono ?_); rintro e w3 ⟨rfl, hb⟩; refine ⟨_, rfl, ?_⟩; replace HB := zb HB hb; (try clear hb)))
 go_ret
 exact ⟨by first | rfl | (simp [errW_none, errW_some] <;> rfl) | (simp [*, errW_none, errW_some] <;> rfl), by exact zb0 HB⟩

end Go.Proofs.Ytapdifpmijgkcaa.G
